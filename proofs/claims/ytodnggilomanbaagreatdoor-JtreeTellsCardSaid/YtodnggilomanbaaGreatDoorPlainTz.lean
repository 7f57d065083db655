/-
  Nodes of few and short parts: own, the reference's Copy and Count of them: no walk. The reference's Same, of nodes of few and short parts, is the program's: no walk. The reference's quoted is the program's: no walk. The reference's written is the program's, of nodes that may be: no walk. The reference's written is the program's, of nodes that may be: no walk. The reference's isNum is the program's: no walk. The reference's runes: Rune, Runes, Valid, as the specs: no walk. (Turned from the text chapter's plain texts.) The reference's may is the program's: no walk. Check and Text of nodes of few and short parts: the program's and the reference's answers: no walk. few makes nodes of few and short parts: no walk. The reference's Get of nodes of few and short parts: no walk. JtreeTells: what each function that the law calls answers, for nodes of few and short parts: contracts over nodes, without fuel. JtreeTells: the rows that the law writes into lie apart from what it read: no walk.
-/
import Derived.Test.YtodnggilomanbaaGreatDoorAp
import Derived.Test.YtodnggilomanbaaGreatDoorGRo
import Derived.Test.YtodnggilomanbaaGreatDoorGTc
import Derived.Test.YtodnggilomanbaaGreatDoorGTz
import Derived.Test.YtodnggilomanbaaGreatDoorGTq
import Derived.Test.YtodnggilomanbaaGreatDoorHandSame
import Derived.Test.YtodnggilomanbaaGreatDoorGTu
import Derived.Test.YtodnggilomanbaaGreatDoorHandQuote
import Derived.Test.YtodnggilomanbaaGreatDoorGTw
import Derived.Test.YtodnggilomanbaaGreatDoorHandWri
import Derived.Test.YtodnggilomanbaaGreatDoorHandMayS
import Derived.Test.YtodnggilomanbaaGreatDoorGRv
import Derived.Test.YtodnggilomanbaaGreatDoorPlainNz
import Derived.Test.YtodnggilomanbaaGreatDoorGTm
import Derived.Test.YtodnggilomanbaaGreatDoorGX
import Derived.Test.YtodnggilomanbaaGreatDoorGTf
import Derived.Test.YtodnggilomanbaaGreatDoorGTg
import Derived.Test.YtodnggilomanbaaGreatDoorHandWorks
section
namespace Go.Proofs.YtodnggilomanbaaGreatDoor.Pure
open Go.RowKit Go.Lib Go.Proofs.YtodnggilomanbaaGreatDoor.PAll Go.Proofs.YtodnggilomanbaaGreatDoorW.PrintWords Go.Proofs.YtodnggilomanbaaGreatDoorW.PrintLast Go.Proofs.YtodnggilomanbaaGreatDoorW.PrintMore
set_option linter.unusedVariables false
set_option linter.unusedSimpArgs false

mutual
def toR : S28 → S37
  | ⟨a, b, q, d⟩ => ⟨a, b, q, toRL d⟩
def toRL : List S28 → List S37
  | [] => []
  | x :: l => toR x :: toRL l
end
theorem toRL_app (a b : List S28) : toRL (a ++ b) = toRL a ++ toRL b := by
  induction a with
  | nil => rfl
  | cons x l ih => rw [List.cons_append, toRL, ih, toRL, List.cons_append]
theorem toR_at (n : S28) : toR n = ⟨n.f0, n.f1, n.f2, toRL n.f3⟩ := by cases n; rfl
theorem s37_eta (x : S37) : (⟨x.f0, x.f1, x.f2, x.f3⟩ : S37) = x := by cases x; rfl
/-- Few and short parts, at most k deep. -/
def Fw : Nat → S28 → Prop
  | 0, _ => False
  | k + 1, n => n.f1.size ≤ 60 ∧ n.f2.length ≤ 8 ∧ (∀ q ∈ n.f2, q.size ≤ 20) ∧ n.f3.length ≤ 8 ∧ ∀ x ∈ n.f3, Fw k x
theorem wrap_nat {i : Nat} (h : i ≤ 1000000000) : wrap64 ((i : Int) + 1) = ((i + 1 : Nat) : Int) := by
  unfold wrap64
  omega
theorem toRL_len (l : List S28) : (toRL l).length = l.length := by
  induction l with
  | nil => rfl
  | cons x l ih => rw [toRL, List.length_cons, List.length_cons, ih]
theorem toRL_get : ∀ (l : List S28) (i : Nat) (h : i < l.length), (toRL l).getD i z37 = toR (l.getD i z28)
  | x :: l, 0, _ => by rw [toRL]; rfl
  | x :: l, i + 1, h => by
    rw [toRL]
    exact toRL_get l i (by simpa using h)
theorem rd37_at (l : List S28) (i : Nat) (h : i < l.length) : rd_T37 (toRL l) (i : Int) = toR (rd_T28 l (i : Int)) := by
  unfold rd_T37 rd_T28
  exact toRL_get l i h
theorem rd28_mem {l : List S28} {i : Nat} (h : i < l.length) : rd_T28 l (i : Int) ∈ l := by
  unfold rd_T28
  rw [Int.toNat_natCast, List.getD_eq_getElem?_getD, List.getElem?_eq_getElem h]
  exact List.getElem_mem h
theorem rd28_drop {l : List S28} {i : Nat} (h : i < l.length) : l.drop i = rd_T28 l (i : Int) :: l.drop (i + 1) := by
  rw [List.drop_eq_getElem_cons h]
  unfold rd_T28
  rw [Int.toNat_natCast, List.getD_eq_getElem?_getD, List.getElem?_eq_getElem h]
  rfl
theorem toRL_take (l : List S28) (i : Nat) (h : i < l.length) : toRL (l.take i) ++ [toR (rd_T28 l (i : Int))] = toRL (l.take (i + 1)) := by
  have e : l.take (i + 1) = l.take i ++ [rd_T28 l (i : Int)] := by
    rw [List.take_add_one, List.getElem?_eq_getElem h]
    unfold rd_T28
    rw [Int.toNat_natCast, List.getD_eq_getElem?_getD, List.getElem?_eq_getElem h]
    rfl
  rw [e, toRL_app]
  rfl
/-! ### own -/
theorem own_l {k : Nat} (hk : ∀ n : S28, Fw k n → ∀ K, 20 * k ≤ K → al.f K n.f0 n.f1 n.f2 n.f3 = some ((toR n).f0, (toR n).f1, (toR n).f2, (toR n).f3)) (d : List S28) (hd : ∀ x ∈ d, Fw k x) (hl : d.length ≤ 8) (a : Int) (b : ByteArray) (q : List ByteArray) (a' : Int) (b' : ByteArray) (q' : List ByteArray) :
    ∀ (m i : Nat), i + m = d.length → ∀ K, 20 * k + m + 1 ≤ K → al.l0 K (i : Int) a b q d a' b' q' (toRL (d.take i)) = some (a', b', q', toRL d)
  | m, i, hm, 0, hK => by omega
  | 0, i, hm, K + 1, hK => by
    rw [al.l0, if_neg (by omega), List.take_of_length_le (by omega)]
  | m + 1, i, hm, K + 1, hK => by
    have hi : i < d.length := by omega
    rw [al.l0, if_pos (by omega), if_pos (by omega), hk _ (hd _ (rd28_mem hi)) K (by omega), Option.bind_some, if_pos (by rw [toRL_len, List.length_take]; omega), wrap_nat (by omega)]
    have e : (⟨(toR (rd_T28 d (i : Int))).f0, (toR (rd_T28 d (i : Int))).f1, (toR (rd_T28 d (i : Int))).f2, (toR (rd_T28 d (i : Int))).f3⟩ : S37) = toR (rd_T28 d (i : Int)) := s37_eta _
    simp only
    rw [e, toRL_take d i hi]
    exact own_l hk d hd hl a b q a' b' q' m (i + 1) (by omega) K (by omega)
theorem own_at : ∀ (k : Nat) (n : S28), Fw k n → ∀ K, 20 * k ≤ K → al.f K n.f0 n.f1 n.f2 n.f3 = some ((toR n).f0, (toR n).f1, (toR n).f2, (toR n).f3)
  | 0, n, h, K, hK => p92z
  | k + 1, n, h, 0, hK => by omega
  | k + 1, n, h, K + 1, hK => by
    unfold Fw at h
    obtain ⟨h0, h1, h2, h3, h4⟩ := h
    rw [al.f, toR_at]
    exact own_l (own_at k) n.f3 h4 h3 _ _ _ _ _ _ n.f3.length 0 (by omega) K (by omega)
/-! ### the reference's Copy -/
theorem i7 {q : List ByteArray} (h : q.length ≤ 8) : aV.f q = some q := by
  unfold aV.f
  rw [if_pos (by simp only [List.length_nil]; omega), List.nil_append]
theorem copyR_l {k : Nat} (hk : ∀ n : S28, Fw k n → ∀ K, 20 * k ≤ K → ag.f K (toR n).f0 (toR n).f1 (toR n).f2 (toR n).f3 = some ((toR n).f0, (toR n).f1, (toR n).f2, (toR n).f3)) (d : List S28) (hd : ∀ x ∈ d, Fw k x) (hl : d.length ≤ 8) (a : Int) (b : ByteArray) (q : List ByteArray) (a' : Int) (b' : ByteArray) (q' : List ByteArray) :
    ∀ (m i : Nat), i + m = d.length → ∀ K, 20 * k + m + 1 ≤ K → ag.l0 K (i : Int) a b q (toRL d) a' b' q' (toRL (d.take i)) = some (a', b', q', toRL d)
  | m, i, hm, 0, hK => by omega
  | 0, i, hm, K + 1, hK => by
    rw [ag.l0, if_neg p94z, List.take_of_length_le (by omega)]
  | m + 1, i, hm, K + 1, hK => by
    have hi : i < d.length := by omega
    rw [ag.l0, if_pos p94z, if_pos (by omega), rd37_at d i hi, hk _ (hd _ (rd28_mem hi)) K (by omega), Option.bind_some, if_pos (by rw [toRL_len, List.length_take]; omega), wrap_nat (by omega)]
    have e : (⟨(toR (rd_T28 d (i : Int))).f0, (toR (rd_T28 d (i : Int))).f1, (toR (rd_T28 d (i : Int))).f2, (toR (rd_T28 d (i : Int))).f3⟩ : S37) = toR (rd_T28 d (i : Int)) := s37_eta _
    simp only
    rw [e, toRL_take d i hi]
    exact copyR_l hk d hd hl a b q a' b' q' m (i + 1) (by omega) K (by omega)
theorem copyR_at : ∀ (k : Nat) (n : S28), Fw k n → ∀ K, 20 * k ≤ K → ag.f K (toR n).f0 (toR n).f1 (toR n).f2 (toR n).f3 = some ((toR n).f0, (toR n).f1, (toR n).f2, (toR n).f3)
  | 0, n, h, K, hK => p92z
  | k + 1, n, h, 0, hK => by omega
  | k + 1, n, h, K + 1, hK => by
    unfold Fw at h
    obtain ⟨h0, h1, h2, h3, h4⟩ := h
    rw [ag.f, toR_at]
    simp only
    rw [i7 h1, Option.bind_some]
    exact copyR_l (copyR_at k) n.f3 h4 h3 _ _ _ _ _ _ n.f3.length 0 (by omega) K (by omega)
/-! ### Count -/
mutual
def cntT : S28 → Nat
  | ⟨_, _, _, L⟩ => cntTL L + 1
def cntTL : List S28 → Nat
  | [] => 0
  | x :: l => cntT x + cntTL l
end
theorem cntT_at (n : S28) : cntT n = cntTL n.f3 + 1 := by cases n; rw [cntT]
theorem cntTL_le {B : Nat} : ∀ l : List S28, (∀ x ∈ l, cntT x ≤ B) → cntTL l ≤ l.length * B
  | [], _ => by simp [cntTL]
  | x :: l, h => by
    have h1 := h x (by simp)
    have h2 := cntTL_le l (fun y hy => h y (by simp [hy]))
    rw [cntTL, List.length_cons, Nat.succ_mul]
    omega
theorem cntT_le : ∀ (k : Nat) (n : S28), Fw k n → cntT n ≤ 9 ^ k
  | 0, n, h => p92z
  | k + 1, n, h => by
    unfold Fw at h
    obtain ⟨h0, h1, h2, h3, h4⟩ := h
    have h5 := cntTL_le n.f3 (fun x hx => cntT_le k x (h4 x hx))
    have h6 : n.f3.length * 9 ^ k ≤ 8 * 9 ^ k := Nat.mul_le_mul_right _ h3
    have h7 : 1 ≤ 9 ^ k := Nat.one_le_pow _ _ (by decide)
    rw [cntT_at, Nat.pow_succ]
    omega
theorem countR_l {k : Nat} (hk : ∀ n : S28, Fw k n → ∀ K, 20 * k ≤ K → ao.f K (toR n).f0 (toR n).f1 (toR n).f2 (toR n).f3 = some (cntT n : Int)) (d : List S28) (hd : ∀ x ∈ d, Fw k x) (hl : d.length ≤ 8) (a : Int) (b : ByteArray) (q : List ByteArray) :
    ∀ (m i acc : Nat), i + m = d.length → acc + cntTL (d.drop i) ≤ 1000000000 → ∀ K, 20 * k + m + 1 ≤ K → ao.l0 K (acc : Int) (i : Int) a b q (toRL d) = some ((acc + cntTL (d.drop i) : Nat) : Int)
  | m, i, acc, hm, hb, 0, hK => by omega
  | 0, i, acc, hm, hb, K + 1, hK => by
    rw [ao.l0, if_neg p94z, List.drop_of_length_le (by omega)]
    simp [cntTL]
  | m + 1, i, acc, hm, hb, K + 1, hK => by
    have hi : i < d.length := by omega
    have hd2 := rd28_drop hi
    rw [hd2, cntTL] at hb
    have hw : wrap64 ((acc : Int) + (cntT (rd_T28 d (i : Int)) : Int)) = ((acc + cntT (rd_T28 d (i : Int)) : Nat) : Int) := p76z
    rw [ao.l0, if_pos p94z, if_pos (by omega), rd37_at d i hi, hk _ (hd _ (rd28_mem hi)) K (by omega), Option.bind_some, wrap_nat (by omega), hw,
      countR_l hk d hd hl a b q m (i + 1) _ (by omega) (by omega) K (by omega), hd2, cntTL, Nat.add_assoc]
theorem countR_at : ∀ (k : Nat), k ≤ 8 → ∀ (n : S28), Fw k n → ∀ K, 20 * k ≤ K → ao.f K (toR n).f0 (toR n).f1 (toR n).f2 (toR n).f3 = some (cntT n : Int)
  | 0, _, n, h, K, hK => p92z
  | k + 1, hk8, n, h, 0, hK => by omega
  | k + 1, hk8, n, h, K + 1, hK => by
    have hc := cntT_le _ n h
    have h98 : 9 ^ (k + 1) ≤ 9 ^ 8 := Nat.pow_le_pow_right (by decide) hk8
    rw [cntT_at] at hc
    unfold Fw at h
    obtain ⟨h0, h1, h2, h3, h4⟩ := h
    rw [ao.f, toR_at]
    simp only
    have e98 : (9 : Nat) ^ 8 = 43046721 := by decide
    have := countR_l (countR_at k (by omega)) n.f3 h4 h3 n.f0 n.f1 n.f2 n.f3.length 0 1 (by omega) (by rw [List.drop_zero]; omega) K (by omega)
    rw [List.drop_zero, Nat.add_comm 1, ← cntT_at] at this
    exact this
end Go.Proofs.YtodnggilomanbaaGreatDoor.Pure
end
section
namespace Go.Proofs.YtodnggilomanbaaGreatDoor.Pure
open Go.RowKit Go.Lib Go.Proofs.YtodnggilomanbaaGreatDoor.PAll Go.Proofs.YtodnggilomanbaaGreatDoorW.PrintWords Go.Proofs.YtodnggilomanbaaGreatDoorW.PrintLast Go.Proofs.YtodnggilomanbaaGreatDoorW.PrintMore Go.Proofs.YtodnggilomanbaaGreatDoor.Hand
set_option linter.unusedVariables false
set_option linter.unusedSimpArgs false

theorem toList_inj {a b : ByteArray} : a.toList = b.toList ↔ a = b := by
 constructor
 ·intro h
  rw [ByteArray.toList_eq, ByteArray.toList_eq] at h
  cases a; cases b
  simpa using h
 ·rintro rfl; rfl
theorem rdT_drop {l : List ByteArray} {i : Nat} (h : i < l.length) : l.drop i = rdOf ByteArray.empty l (i : Int) :: l.drop (i + 1) := by
  rw [List.drop_eq_getElem_cons h]
  unfold rdOf
  rw [Int.toNat_natCast, List.getD_eq_getElem?_getD, List.getElem?_eq_getElem h]
  rfl
theorem eqt_l (p q : List ByteArray) (hl : p.length = q.length) (h8 : p.length ≤ 8) : ∀ (m i : Nat), i + m = p.length → ∀ K, m + 1 ≤ K → au.l0 K p q (i : Int) = some (decide (p.drop i = q.drop i))
 | m, i, hm, 0, hK => by omega
 | 0, i, hm, K + 1, hK => by
  rw [au.l0, if_neg (by omega), List.drop_of_length_le (by omega), List.drop_of_length_le (by omega)]
  rfl
 | m + 1, i, hm, K + 1, hK => by
  have hi : i < p.length := by omega
  have hj : i < q.length := by omega
  rw [au.l0, if_pos (by omega), if_pos (by omega), if_pos (by omega), rdT_drop hi, rdT_drop hj, wrap_nat (by omega)]
  by_cases hc : (rdOf ByteArray.empty p (i : Int)).toList = (rdOf ByteArray.empty q (i : Int)).toList
  case neg =>
   rw [if_neg hc, decide_eq_false]
   intro he
   exact hc (by rw [(List.cons.inj he).1])
  rw [if_pos hc, eqt_l p q hl h8 m (i + 1) (by omega) K (by omega), toList_inj.1 hc]
  congr 1
  simp
theorem eqt_at (p q : List ByteArray) (h8 : p.length ≤ 8) {K : Nat} (hK : 9 ≤ K) : au.f K p q = some (decide (p = q)) := by
 unfold au.f
 by_cases hl : p.length = q.length
 case neg =>
  rw [if_neg (by omega), decide_eq_false]
  rintro rfl
  exact hl rfl
 rw [if_pos (by omega)]
 have := eqt_l p q hl h8 p.length 0 (by omega) K (by omega)
 rw [List.drop_zero, List.drop_zero] at this
 exact this
theorem rsame_l {k : Nat} (hk : ∀ n m : S28, Fw k n → Fw k m → ∀ K, 20 * k ≤ K → ae.f K (toR n).f0 (toR n).f1 (toR n).f2 (toR n).f3 (toR m).f0 (toR m).f1 (toR m).f2 (toR m).f3 = some (sameF n m)) (d e : List S28) (hde : d.length = e.length) (hd : ∀ x ∈ d, Fw k x) (he : ∀ x ∈ e, Fw k x) (hl : d.length ≤ 8) (a : Int) (b : ByteArray) (q : List ByteArray) (a' : Int) (b' : ByteArray) (q' : List ByteArray) :
 ∀ (m i : Nat), i + m = d.length → ∀ K, 20 * k + m + 1 ≤ K → ae.l0 K (i : Int) a b q (toRL d) a' b' q' (toRL e) = some (sameL (d.drop i) (e.drop i))
 | m, i, hm, 0, hK => by omega
 | 0, i, hm, K + 1, hK => by
  rw [ae.l0, if_neg p94z, List.drop_of_length_le (by omega), List.drop_of_length_le (by omega), sameL]
 | m + 1, i, hm, K + 1, hK => by
  have hi : i < d.length := by omega
  have hj : i < e.length := by omega
  rw [ae.l0, if_pos p94z, if_pos (by omega), if_pos p94z, rd37_at d i hi, rd37_at e i hj, hk _ _ (hd _ (rd28_mem hi)) (he _ (rd28_mem hj)) K (by omega), Option.bind_some, rd28_drop hi, rd28_drop hj, sameL, wrap_nat (by omega)]
  by_cases hc : sameF (rd_T28 d (i : Int)) (rd_T28 e (i : Int)) = true
  case neg =>
   rw [if_neg hc, Bool.eq_false_iff.2 hc, Bool.false_and]
  rw [if_pos hc, rsame_l hk d e hde hd he hl a b q a' b' q' m (i + 1) (by omega) K (by omega), hc, Bool.true_and]
theorem rsame_at : ∀ (k : Nat) (n m : S28), Fw k n → Fw k m → ∀ K, 20 * k ≤ K → ae.f K (toR n).f0 (toR n).f1 (toR n).f2 (toR n).f3 (toR m).f0 (toR m).f1 (toR m).f2 (toR m).f3 = some (sameF n m)
 | 0, n, m, h, _, K, hK => p92z
 | k + 1, n, m, h, h', 0, hK => by omega
 | k + 1, n, m, h, h', 1, hK => by omega
 | k + 1, n, m, h, h', K + 2, hK => by
  unfold Fw at h h'
  obtain ⟨h0, h1, h2, h3, h4⟩ := h
  obtain ⟨g0, g1, g2, g3, g4⟩ := h'
  have hj : ∀ b, ae.j0 (K + 1) true n.f0 n.f1 n.f2 (toRL n.f3) m.f0 m.f1 m.f2 b = some false := by
   intro b
   rw [ae.j0, if_pos rfl]
  rw [ae.f, toR_at n, toR_at m, sameF_eq]
  simp only
  by_cases c0 : n.f0 = m.f0
  case neg =>
   rw [if_neg c0, hj, decide_eq_false c0]
   simp
  by_cases c1 : n.f1.toList = m.f1.toList
  case neg =>
   rw [if_pos c0, if_neg c1, hj, decide_eq_true c0, decide_eq_false (fun h => c1 (toList_inj.2 h))]
   simp
  rw [if_pos c0, if_pos c1, eqt_at n.f2 m.f2 h1 (by omega), Option.bind_some, decide_eq_true c0, decide_eq_true (toList_inj.1 c1), Bool.true_and, Bool.true_and]
  by_cases c2 : n.f2 = m.f2
  case neg =>
   rw [decide_eq_false c2, if_neg (by decide), hj, Bool.false_and]
  rw [decide_eq_true c2, if_pos rfl, Bool.true_and, ae.j0]
  by_cases c3 : n.f3.length = m.f3.length
  case neg =>
   rw [if_pos (by rw [toRL_len, toRL_len]; simp; omega), sameL_len c3]
  rw [if_neg (by rw [toRL_len, toRL_len]; simp [c3])]
  have := rsame_l (rsame_at k) n.f3 m.f3 c3 h4 g4 h3 n.f0 n.f1 n.f2 m.f0 m.f1 m.f2 n.f3.length 0 (by omega) K (by omega)
  rw [List.drop_zero, List.drop_zero] at this
  exact this
end Go.Proofs.YtodnggilomanbaaGreatDoor.Pure
end
section
namespace Go.Proofs.YtodnggilomanbaaGreatDoor.Pure
open Go.RowKit Go.Lib Go.Proofs.YtodnggilomanbaaGreatDoor.PAll Go.Proofs.YtodnggilomanbaaGreatDoorW.PrintWords Go.Proofs.YtodnggilomanbaaGreatDoorW.PrintLast Go.Proofs.YtodnggilomanbaaGreatDoorW.PrintMore Go.Proofs.YtodnggilomanbaaGreatDoor.Hand
set_option linter.unusedVariables false
set_option linter.unusedSimpArgs false

theorem bt_here {s : ByteArray} {i : Nat} (h : i < s.size) : (bytesOf s).drop i = bt s (i : Int) :: (bytesOf s).drop (i + 1) := by
  have hl : i < (bytesOf s).length := by rw [bytesOf_length]; exact h
  rw [List.drop_eq_getElem_cons hl]
  congr 1
  have hb := bt_at s (i : Int)
  rw [← hb (by simpa using h)]
  simp [bytesOf]
  rfl
theorem bt_range (s : ByteArray) {i : Nat} (h : i < s.size) : 0 ≤ bt s (i : Int) ∧ bt s (i : Int) ≤ 255 := by
  have hb := bt_at s (i : Int) (by simpa using h)
  rw [← hb]
  have := (s[i]'h).toNat_lt
  refine ⟨by omega, ?_⟩
  simp only [Int.toNat_natCast]
  omega
theorem hex_lit : ∀ c : Fin 32, bt (⟨#[48, 49, 50, 51, 52, 53, 54, 55, 56, 57, 97, 98, 99, 100, 101, 102]⟩ : ByteArray) ((Int.tdiv (c.val : Int) 16) % 256) = hexC ((c.val : Int) / 16) ∧ bt (⟨#[48, 49, 50, 51, 52, 53, 54, 55, 56, 57, 97, 98, 99, 100, 101, 102]⟩ : ByteArray) (Int.tmod (c.val : Int) 16) = hexC ((c.val : Int) % 16) ∧ 0 ≤ (Int.tdiv (c.val : Int) 16) % 256 ∧ (Int.tdiv (c.val : Int) 16) % 256 < 16 ∧ 0 ≤ Int.tmod (c.val : Int) 16 ∧ Int.tmod (c.val : Int) 16 < 16 := p103z
theorem quo_step (k : Nat) (s : ByteArray) (x3 : List Int) (x4 c : Int) (h0 : 0 ≤ c) (h1 : c ≤ 255) (hl : x3.length ≤ 1000000000) :
 a7.j1 (k + 1) s x3 x4 c (decide (c = 34) || decide (c = 92)) = a7.l0 k s (x3 ++ escB c) (wrap64 (x4 + 1)) := by
 rw [a7.j1]
 by_cases c1 : c = 34 ∨ c = 92
 case pos =>
  rw [if_pos (by simpa using c1), Option.bind_some, if_pos p77z]
  rcases c1 with rfl | rfl <;> rfl
 rw [if_neg (by simpa using c1)]
 by_cases c2 : c = 8
 ·subst c2
  rw [if_pos rfl, Option.bind_some, if_pos p77z]
  rfl
 rw [if_neg c2]
 by_cases c3 : c = 12
 ·subst c3
  rw [if_pos rfl, Option.bind_some, if_pos p77z]
  rfl
 rw [if_neg c3]
 by_cases c4 : c = 10
 ·subst c4
  rw [if_pos rfl, Option.bind_some, if_pos p77z]
  rfl
 rw [if_neg c4]
 by_cases c5 : c = 13
 ·subst c5
  rw [if_pos rfl, Option.bind_some, if_pos p77z]
  rfl
 rw [if_neg c5]
 by_cases c6 : c = 9
 ·subst c6
  rw [if_pos rfl, Option.bind_some, if_pos p77z]
  rfl
 rw [if_neg c6]
 have hs : shH c = false := by
  unfold shH
  rw [decide_eq_false (by omega), decide_eq_false (by omega), decide_eq_false c2, decide_eq_false c3, decide_eq_false c4, decide_eq_false c5, decide_eq_false c6]
  rfl
 have he : escB c = if c < 32 then [92, 117, 48, 48, hexC (c / 16), hexC (c % 16)] else [c] := by
  unfold escB
  rw [if_neg (by rw [hs]; decide)]
 rw [he]
 by_cases c7 : c < 32
 case neg =>
  rw [if_neg c7, if_neg c7, if_pos (by omega)]
 have := hex_lit ⟨c.toNat, by omega⟩
 rw [show (((⟨c.toNat, by omega⟩ : Fin 32).val : Nat) : Int) = c from Int.toNat_of_nonneg h0] at this
 obtain ⟨e1, e2, e3, e4, e5, e6⟩ := this
 rw [if_pos c7, if_pos c7, if_pos e3, if_pos e4, if_pos e5, if_pos e6, Option.bind_some, if_pos p77z, e1, e2]
theorem quo_l (s : ByteArray) : ∀ (m i : Nat), i + m = s.size → ∀ K, 2 * m + 1 ≤ K → ∀ x3 : List Int, x3.length + 6 * m ≤ 1000000000 → i ≤ 1000000000 → s.size ≤ 1000000000 → a7.l0 K s x3 (i : Int) = some (strOfNums (x3 ++ ((bytesOf s).drop i).flatMap escB ++ [34]))
 | m, i, hm, 0, hK, x3, hx, hi, hz => by omega
 | 0, i, hm, K + 1, hK, x3, hx, hi, hz => by
  rw [a7.l0, if_neg (by omega), if_pos (by omega), List.drop_of_length_le p119z]
  simp
 | m + 1, i, hm, 1, hK, x3, hx, hi, hz => by omega
 | m + 1, i, hm, K + 2, hK, x3, hx, hi, hz => by
  have hlt : i < s.size := by omega
  obtain ⟨b0, b1⟩ := bt_range s hlt
  have hj : (if bt s (i : Int) = 34 then a7.j1 (K + 1) s x3 (i : Int) (bt s (i : Int)) true else a7.j1 (K + 1) s x3 (i : Int) (bt s (i : Int)) (bt s (i : Int) == 92)) = a7.j1 (K + 1) s x3 (i : Int) (bt s (i : Int)) (decide (bt s (i : Int) = 34) || decide (bt s (i : Int) = 92)) := by
   by_cases c : bt s (i : Int) = 34
   case pos =>
    rw [if_pos c, decide_eq_true c, Bool.true_or]
   rw [if_neg c, decide_eq_false c, Bool.false_or]
   congr 1
  rw [a7.l0, if_pos (by omega), if_pos (by omega), hj, quo_step K s x3 _ _ b0 b1 (by omega), wrap_nat (by omega), bt_here hlt]
  have h6 := (escB_len (bt s (i : Int))).2
  rw [quo_l s m (i + 1) (by omega) K (by omega) (x3 ++ escB (bt s (i : Int))) (by rw [List.length_append]; omega) (by omega) hz]
  simp [List.flatMap_cons, List.append_assoc]
theorem quoR_at (s : ByteArray) (hz : s.size ≤ 60) {K : Nat} (hK : 200 ≤ K) : a7.f K s = some (quoF s) := by
  unfold a7.f
  have := quo_l s s.size 0 (by omega) K (by omega) [34] p77z (by omega) (by omega)
  rw [List.drop_zero] at this
  exact this
end Go.Proofs.YtodnggilomanbaaGreatDoor.Pure
end
section
namespace Go.Proofs.YtodnggilomanbaaGreatDoor.Pure
open Go.RowKit Go.Lib Go.Proofs.YtodnggilomanbaaGreatDoor.PAll Go.Proofs.YtodnggilomanbaaGreatDoorW.PrintWords Go.Proofs.YtodnggilomanbaaGreatDoorW.PrintLast Go.Proofs.YtodnggilomanbaaGreatDoorW.PrintMore Go.Proofs.YtodnggilomanbaaGreatDoor.Hand
set_option linter.unusedVariables false
set_option linter.unusedSimpArgs false

theorem ba_ext {a b : ByteArray} (h : a.data.toList = b.data.toList) : a = b := by
  cases a with
  | mk x => cases b with
    | mk y => exact congrArg ByteArray.mk (Array.toList_inj.1 h)
theorem joinB_nil : joinB [] = ⟨#[]⟩ := rfl
theorem joinB_one (y : ByteArray) : joinB [y] = y := by
  apply ba_ext
  unfold joinB
  simp only [List.map_cons, List.map_nil, Lib.join_one]
theorem fp (sep : List UInt8) (r : List (List UInt8)) (y : List UInt8) : Lib.joinTail sep (r ++ [y]) = Lib.joinTail sep r ++ sep ++ y := by
  unfold Lib.joinTail
  simp
theorem ir {xs : List ByteArray} (h : xs ≠ []) (y : ByteArray) : joinB (xs ++ [y]) = joinB xs ++ (⟨#[44]⟩ : ByteArray) ++ y := by
  cases xs with
  | nil => exact absurd rfl h
  | cons x r =>
    apply ba_ext
    unfold joinB
    simp only [List.cons_append, List.map_cons, List.map_append, List.map_nil, Lib.join_cons, fp, ByteArray.data_append, Array.toList_append]
    simp
theorem el {B : Nat} : ∀ r : List (List UInt8), (∀ x ∈ r, x.length ≤ B) → (Lib.joinTail [44] r).length ≤ r.length * (B + 1)
  | [], _ => by simp [Lib.joinTail]
  | x :: r, h => by
    have h1 := h x (by simp)
    have h2 := el r (fun y hy => h y (by simp [hy]))
    unfold Lib.joinTail at h2 ⊢
    simp only [List.map_cons, List.flatten_cons, List.length_append, List.length_cons, List.length_nil, Nat.succ_mul]
    omega
theorem joinB_len {B : Nat} (xs : List ByteArray) (h : ∀ x ∈ xs, x.size ≤ B) : (joinB xs).size ≤ xs.length * (B + 1) := by
  cases xs with
  | nil =>
    rw [joinB_nil]
    exact Nat.zero_le _
  | cons x r =>
    have h1 := h x (by simp)
    have h2 := el (B := B) (r.map (·.data.toList)) (fun y hy => by
      obtain ⟨z, hz, rfl⟩ := List.mem_map.1 hy
      have := h z (by simp [hz])
      simpa using this)
    have e : (joinB (x :: r)).size = x.size + (Lib.joinTail [44] (r.map (·.data.toList))).length := by
      unfold joinB
      simp only [List.map_cons, Lib.join_cons]
      show (List.toArray _).size = _
      simp
    rw [e, List.length_cons, Nat.succ_mul]
    rw [List.length_map] at h2
    omega
theorem quoF_size (s : ByteArray) : (quoF s).size ≤ 2 + 6 * s.size := by
  have h1 := flat_len (bytesOf s)
  unfold quoF quoL
  have : (strOfNums (34 :: ((bytesOf s).flatMap escB ++ [34]))).size = (34 :: ((bytesOf s).flatMap escB ++ [34])).length := by
    unfold strOfNums
    show (List.toArray _).size = _
    simp
  rw [this, List.length_cons, List.length_append, List.length_cons, List.length_nil]
  rw [bytesOf_length] at h1
  omega
theorem qk_size (q t : ByteArray) (hq : q.size ≤ 20) : (qk q t).size ≤ t.size + 123 := by
  have := quoF_size q
  unfold qk
  rw [ByteArray.size_append, ByteArray.size_append]
  have e : (⟨#[58]⟩ : ByteArray).size = 1 := rfl
  omega
theorem zip_mem2 {ks ts : List ByteArray} {y : ByteArray} (h : y ∈ List.zipWith qk ks ts) : ∃ q ∈ ks, ∃ t ∈ ts, y = qk q t := by
 induction ks generalizing ts with
 | nil => simp at h
 | cons a ks ih =>
  cases ts with
  | nil => simp at h
  | cons b ts =>
   rw [List.zipWith_cons_cons, List.mem_cons] at h
   rcases h with rfl | h
   ·exact ⟨a, by simp, b, by simp, rfl⟩
   ·obtain ⟨q, hq, t, ht, e⟩ := ih h
    exact ⟨q, by simp [hq], t, by simp [ht], e⟩
theorem fg {B : Nat} {n : S28} (hk : ∀ q ∈ n.f2, q.size ≤ 20) (hB : ∀ x ∈ n.f3, (wriF x).size ≤ B) : ∀ y ∈ partsW n, y.size ≤ B + 123 := by
 intro y hy
 unfold partsW at hy
 split at hy
 ·obtain ⟨q, hq, t, ht, rfl⟩ := zip_mem2 hy
  rw [wriL_map] at ht
  obtain ⟨x, hx, rfl⟩ := List.mem_map.1 ht
  have := qk_size q (wriF x) (hk q hq)
  have := hB x hx
  omega
 ·rw [wriL_map] at hy
  obtain ⟨x, hx, rfl⟩ := List.mem_map.1 hy
  have := hB x hx
  omega
theorem parts_len {n : S28} (h : n.f0 = 7 → n.f2.length = n.f3.length) : (partsW n).length = n.f3.length := by
 unfold partsW
 split
 ·rename_i h7
  rw [List.length_zipWith, wriL_map, List.length_map, h h7, Nat.min_self]
 ·rw [wriL_map, List.length_map]
theorem parts_le (n : S28) : (partsW n).length ≤ n.f3.length := by
 unfold partsW
 split
 ·rw [List.length_zipWith, wriL_map, List.length_map]
  exact Nat.min_le_right _ _
 ·rw [wriL_map, List.length_map]
  exact Nat.le_refl _
theorem iu (k : Int) : (wordB k).size ≤ 5 := by
  unfold wordB
  (repeat' split) <;> decide
theorem wri_size : ∀ (k : Nat) (n : S28), Fw k n → (wriF n).size ≤ 1200 * 9 ^ k
 | 0, n, h => p92z
 | k + 1, n, h => by
  unfold Fw at h
  obtain ⟨h0, h1, h2, h3, h4⟩ := h
  have hB := fun x hx => wri_size k x (h4 x hx)
  have h1k : 1 ≤ 9 ^ k := Nat.one_le_pow _ _ (by decide)
  have hP : ∀ xs : List ByteArray, (∀ y ∈ xs, y.size ≤ 1200 * 9 ^ k + 123) → xs.length ≤ 8 → (joinB xs).size ≤ 8 * (1200 * 9 ^ k + 124) := by
   intro xs hx hl
   have := joinB_len xs hx
   have h8 : xs.length * (1200 * 9 ^ k + 123 + 1) ≤ 8 * (1200 * 9 ^ k + 123 + 1) := Nat.mul_le_mul_right _ hl
   omega
  have hps := fg h2 hB
  have hpl := parts_le n
  unfold partsW at hps hpl
  rw [wriF_eq, Nat.pow_succ]
  have e1 : (⟨#[91]⟩ : ByteArray).size = 1 := rfl
  have e2 : (⟨#[93]⟩ : ByteArray).size = 1 := rfl
  have e3 : (⟨#[123]⟩ : ByteArray).size = 1 := rfl
  have e4 : (⟨#[125]⟩ : ByteArray).size = 1 := rfl
  split
  ·omega
  ·split
   ·have := quoF_size n.f1
    omega
   ·split
    ·rename_i c
     rw [if_neg (by omega)] at hps hpl
     have := hP _ hps (by omega)
     simp only [ByteArray.size_append, e1, e2]
     omega
    ·split
     ·rename_i c
      rw [if_pos c] at hps hpl
      have := hP _ hps (by omega)
      simp only [ByteArray.size_append, e3, e4]
      omega
     ·have := iu n.f0
      omega
end Go.Proofs.YtodnggilomanbaaGreatDoor.Pure
end
section
namespace Go.Proofs.YtodnggilomanbaaGreatDoor.Pure
open Go.RowKit Go.Lib Go.Proofs.YtodnggilomanbaaGreatDoor.PAll Go.Proofs.YtodnggilomanbaaGreatDoorW.PrintWords Go.Proofs.YtodnggilomanbaaGreatDoorW.PrintLast Go.Proofs.YtodnggilomanbaaGreatDoorW.PrintMore Go.Proofs.YtodnggilomanbaaGreatDoor.Hand
set_option linter.unusedVariables false
set_option linter.unusedSimpArgs false

theorem wriL_get {l : List S28} {i : Nat} (h : i < l.length) : (wriL l)[i]? = some (wriF (rd_T28 l (i : Int))) := by
  rw [wriL_map, List.getElem?_map, List.getElem?_eq_getElem h]
  unfold rd_T28
  rw [Int.toNat_natCast, List.getD_eq_getElem?_getD, List.getElem?_eq_getElem h]
  rfl
theorem parts_get {n : S28} {i : Nat} (h : i < n.f3.length) (h7 : n.f0 = 7 → n.f2.length = n.f3.length) : (partsW n)[i]? = some (if n.f0 = 7 then qk (rdOf ByteArray.empty n.f2 (i : Int)) (wriF (rd_T28 n.f3 (i : Int))) else wriF (rd_T28 n.f3 (i : Int))) := by
 unfold partsW
 split
 ·rename_i c
  have hi : i < n.f2.length := by rw [h7 c]; exact h
  rw [List.getElem?_zipWith, wriL_get h, List.getElem?_eq_getElem hi]
  unfold rdOf
  rw [Int.toNat_natCast, List.getD_eq_getElem?_getD, List.getElem?_eq_getElem hi]
  rfl
 ·exact wriL_get h
theorem take_snoc {α : Type} {l : List α} {i : Nat} {x : α} (h : l[i]? = some x) : l.take (i + 1) = l.take i ++ [x] := by
  rw [List.take_add_one, h]
  rfl
theorem acc_size {k : Nat} (hk8 : k ≤ 8) {n : S28} (h : Fw (k + 1) n) (i : Nat) : (joinB ((partsW n).take i)).size ≤ 1000000000000 := by
  unfold Fw at h
  obtain ⟨h0, h1, h2, h3, h4⟩ := h
  have hps := fg h2 (fun x hx => wri_size k x (h4 x hx))
  have hl := joinB_len ((partsW n).take i) (fun y hy => hps y (List.mem_of_mem_take hy))
  have h5 : ((partsW n).take i).length ≤ 8 := by
    have := parts_le n
    rw [List.length_take]
    omega
  have h6 := Nat.mul_le_mul_right (1200 * 9 ^ k + 123 + 1) h5
  have h98 : 9 ^ k ≤ 9 ^ 8 := Nat.pow_le_pow_right (by decide) hk8
  have e98 : (9 : Nat) ^ 8 = 43046721 := by decide
  omega
theorem may_parts {n : S28} {d : Int} (h : mayF n d = true) : isF n.f0 n.f1 n.f2 n.f3.length = true ∧ d ≤ 60 ∧ mayL n.f3 (d + 1) = true := by
  cases n
  rw [mayF, Bool.and_eq_true, Bool.and_eq_true, decide_eq_true_eq] at h
  exact ⟨h.1.1, h.1.2, h.2⟩
theorem mayL_get : ∀ {l : List S28} {x : S28} {d : Int}, mayL l d = true → x ∈ l → mayF x d = true
 | y :: l, x, d, h, hx => by
  rw [mayL, Bool.and_eq_true] at h
  rcases List.mem_cons.1 hx with rfl | hx
  ·exact h.1
  ·exact mayL_get h.2 hx
theorem is7 {k : Int} {s : ByteArray} {ks : List ByteArray} {n : Nat} (h : isF k s ks n = true) (h7 : k = 7) : ks.length = n := by
  subst h7
  unfold isF at h
  rw [if_neg (by decide), if_neg (by decide), if_neg (by decide), if_neg (by decide), if_pos rfl] at h
  simp only [Bool.and_eq_true, decide_eq_true_eq] at h
  exact h.1.1.2
theorem isKind {k : Int} {s : ByteArray} {ks : List ByteArray} {n : Nat} (h : isF k s ks n = true) : k = 1 ∨ k = 2 ∨ k = 3 ∨ k = 4 ∨ k = 5 ∨ k = 6 ∨ k = 7 := by
 unfold isF at h
 by_cases c1 : k = 1 ∨ k = 2 ∨ k = 3
 case pos =>
  omega
 rw [if_neg c1] at h
 by_cases c4 : k = 4
 case pos =>
  omega
 rw [if_neg c4] at h
 by_cases c5 : k = 5
 case pos =>
  omega
 rw [if_neg c5] at h
 by_cases c6 : k = 6
 case pos =>
  omega
 rw [if_neg c6] at h
 by_cases c7 : k = 7
 case pos =>
  omega
 rw [if_neg c7] at h
 cases h
theorem wriR_l {k : Nat} (hk8 : k ≤ 8) (hk : ∀ (x : S28) (d : Int), Fw k x → mayF x d = true → ∀ K, 300 * k + 1 ≤ K → af.f K (toR x).f0 (toR x).f1 (toR x).f2 (toR x).f3 = some (wriF x))
 (n : S28) (d : Int) (hF : Fw (k + 1) n) (hm : mayL n.f3 d = true) (h67 : n.f0 = 6 ∨ n.f0 = 7) (h7 : n.f0 = 7 → n.f2.length = n.f3.length) :
 ∀ (m i : Nat), i + m = n.f3.length → ∀ K, 300 * k + 260 + 2 * m ≤ K → af.l0 K (joinB ((partsW n).take i)) (i : Int) n.f0 n.f1 n.f2 (toRL n.f3) = some (wriF n)
 | m, i, hm2, 0, hK => by omega
 | m, i, hm2, 1, hK => by omega
 | 0, i, hm2, K + 2, hK => by
  have hsz := acc_size hk8 hF i
  have ht : (partsW n).take i = partsW n := List.take_of_length_le (by have := parts_le n; omega)
  rw [ht] at hsz
  rw [af.l0, if_neg p94z, ht, wriF_eq]
  have e1 : (⟨#[91]⟩ : ByteArray).size = 1 := rfl
  have e3 : (⟨#[123]⟩ : ByteArray).size = 1 := rfl
  rcases h67 with c | c
  ·rw [if_pos c, if_pos (by omega), if_pos (by rw [ByteArray.size_append, e1]; omega), if_neg (by omega), if_neg (by omega), if_pos c]
   unfold partsW
   rw [if_neg (by omega)]
  ·rw [if_neg (by omega), if_pos (by omega), if_pos (by rw [ByteArray.size_append, e3]; omega), if_neg (by omega), if_neg (by omega), if_neg (by omega), if_pos c]
   unfold partsW
   rw [if_pos c]
 | m + 1, i, hm2, K + 2, hK => by
  have hi : i < n.f3.length := by omega
  have hsz := acc_size hk8 hF i
  have hsz1 := acc_size hk8 hF (i + 1)
  have hg := parts_get hi h7
  have hF' := hF
  unfold Fw at hF'
  obtain ⟨h0, h1, h2, h3, h4⟩ := hF'
  have hx := rd28_mem hi
  have hwr := hk _ d (h4 _ hx) (mayL_get hm hx) K (by omega)
  have hle : i < (partsW n).length := by rw [parts_len h7]; exact hi
  -- the text, and a comma where one stands
  obtain ⟨x3, hx3⟩ : ∃ x3, x3 = (if i = 0 then joinB ((partsW n).take i) else joinB ((partsW n).take i) ++ (⟨#[44]⟩ : ByteArray)) := ⟨_, rfl⟩
  have e44 : (⟨#[44]⟩ : ByteArray).size = 1 := rfl
  have hx3s : x3.size ≤ 1000000000001 := by
   rw [hx3]
   split
   ·omega
   ·rw [ByteArray.size_append, e44]
    omega
  have hnext : ∀ y, (partsW n)[i]? = some y → x3 ++ y = joinB ((partsW n).take (i + 1)) := by
   intro y hy
   rw [take_snoc hy, hx3]
   split
   ·rename_i c
    subst c
    rw [List.take_zero, joinB_nil, List.nil_append, joinB_one]
    apply ba_ext
    simp [ByteArray.data_append]
   ·rename_i c
    rw [ir (by intro h; have := congrArg List.length h; rw [List.length_take, List.length_nil] at this; omega)]
  have hj : af.l0 (K + 2) (joinB ((partsW n).take i)) (i : Int) n.f0 n.f1 n.f2 (toRL n.f3) = af.j1 (K + 1) x3 (i : Int) n.f0 n.f1 n.f2 (toRL n.f3) := by
   rw [af.l0, if_pos p94z]
   by_cases c : i = 0
   case pos =>
    rw [if_neg (by omega), hx3, if_pos c]
   rw [if_pos (by omega), if_pos (by omega), hx3, if_neg c]
  have hn := hnext _ hg
  have hrec := wriR_l hk8 hk n d hF hm h67 h7 m (i + 1) (by omega) K (by omega)
  rw [hj, af.j1]
  by_cases c7 : n.f0 = 7
  case neg =>
   rw [if_neg c7] at hn
   have hws := wri_size k _ (h4 _ hx)
   have h98 : 9 ^ k ≤ 9 ^ 8 := Nat.pow_le_pow_right (by decide) hk8
   have e98 : (9 : Nat) ^ 8 = 43046721 := by decide
   rw [if_neg c7, if_pos (by omega), if_pos p94z, rd37_at _ i hi, hwr, Option.bind_some, if_pos (by omega), wrap_nat (by omega), hn]
   exact hrec
  rw [if_pos c7] at hn
  have hi2 : i < n.f2.length := by rw [h7 c7]; exact hi
  have hq : (rdOf ByteArray.empty n.f2 (i : Int)).size ≤ 20 := by
   apply h2
   unfold rdOf
   rw [Int.toNat_natCast, List.getD_eq_getElem?_getD, List.getElem?_eq_getElem hi2]
   exact List.getElem_mem hi2
  have hqs := quoF_size (rdOf ByteArray.empty n.f2 (i : Int))
  have e58 : (⟨#[58]⟩ : ByteArray).size = 1 := rfl
  have hws := wri_size k _ (h4 _ hx)
  have h98 : 9 ^ k ≤ 9 ^ 8 := Nat.pow_le_pow_right (by decide) hk8
  have e98 : (9 : Nat) ^ 8 = 43046721 := by decide
  rw [if_pos c7, if_pos (by omega), if_pos (by omega), quoR_at _ (by omega) (show 200 ≤ K by omega), Option.bind_some, if_pos (by omega), if_pos (by rw [ByteArray.size_append]; omega), if_pos p94z, rd37_at _ i hi, hwr, Option.bind_some,
   if_pos (by rw [ByteArray.size_append, ByteArray.size_append, e58]; omega), wrap_nat (by omega)]
  unfold qk at hn
  rw [show x3 ++ quoF (rdOf ByteArray.empty n.f2 (i : Int)) ++ (⟨#[58]⟩ : ByteArray) ++ wriF (rd_T28 n.f3 (i : Int)) = joinB ((partsW n).take (i + 1)) by rw [← hn]; apply ba_ext; simp [ByteArray.data_append]]
  exact hrec
theorem wriR_at : ∀ (k : Nat), k ≤ 8 → ∀ (n : S28) (d : Int), Fw k n → mayF n d = true → ∀ K, 300 * k + 1 ≤ K → af.f K (toR n).f0 (toR n).f1 (toR n).f2 (toR n).f3 = some (wriF n)
 | 0, _, n, d, h, hm, K, hK => p92z
 | k + 1, hk8, n, d, h, hm, 0, hK => by omega
 | k + 1, hk8, n, d, h, hm, K + 1, hK => by
  obtain ⟨m1, m2, m3⟩ := may_parts hm
  have hF := h
  unfold Fw at h
  obtain ⟨h0, h1, h2, h3, h4⟩ := h
  have hkd := isKind m1
  rw [af.f, toR_at]
  simp only
  by_cases c1 : n.f0 = 1
  case pos =>
   rw [if_pos c1, wriF_eq, if_neg (by omega), if_neg (by omega), if_neg (by omega), if_neg (by omega)]
   unfold wordB
   rw [if_pos c1]
  by_cases c2 : n.f0 = 2
  case pos =>
   rw [if_neg c1, if_pos c2, wriF_eq, if_neg (by omega), if_neg (by omega), if_neg (by omega), if_neg (by omega)]
   unfold wordB
   rw [if_neg c1, if_pos c2]
  by_cases c3 : n.f0 = 3
  case pos =>
   rw [if_neg c1, if_neg c2, if_pos c3, wriF_eq, if_neg (by omega), if_neg (by omega), if_neg (by omega), if_neg (by omega)]
   unfold wordB
   rw [if_neg c1, if_neg c2, if_pos c3]
  by_cases c4 : n.f0 = 4
  case pos =>
   rw [if_neg c1, if_neg c2, if_neg c3, if_pos c4, wriF_eq, if_pos c4]
  by_cases c5 : n.f0 = 5
  case pos =>
   rw [if_neg c1, if_neg c2, if_neg c3, if_neg c4, if_pos c5, quoR_at _ h0 (show 200 ≤ K by omega), Option.bind_some, wriF_eq, if_neg c4, if_pos c5]
  rw [if_neg c1, if_neg c2, if_neg c3, if_neg c4, if_neg c5]
  have := wriR_l (by omega) (wriR_at k (by omega)) n (d + 1) hF m3 (by omega) (is7 m1) n.f3.length 0 (by omega) K (by omega)
  rw [List.take_zero, joinB_nil] at this
  exact this
end Go.Proofs.YtodnggilomanbaaGreatDoor.Pure
end
section
namespace Go.Proofs.YtodnggilomanbaaGreatDoor.Pure
open Go.RowKit Go.Lib Go.Proofs.YtodnggilomanbaaGreatDoor.PAll Go.Proofs.YtodnggilomanbaaGreatDoorW.PrintWords Go.Proofs.YtodnggilomanbaaGreatDoorW.PrintLast Go.Proofs.YtodnggilomanbaaGreatDoorW.PrintMore Go.Proofs.YtodnggilomanbaaGreatDoor.Hand
set_option linter.unusedVariables false
set_option linter.unusedSimpArgs false

theorem tw64 {x : Int} (h0 : -1000000000 ≤ x) (h1 : x ≤ 1000000000) : wrap64 x = x := p76z
theorem isDgt_iff (c : Int) : isDgt c = true ↔ c ≥ 48 ∧ c ≤ 57 := by
  unfold isDgt
  simp
theorem dg_in {s : ByteArray} {y : Int} (h0 : 0 ≤ y) (h1 : y < (s.size : Int)) : ndg ((bytesOf s).drop y.toNat) = if isDgt (bt s y) = true then ndg ((bytesOf s).drop (y + 1).toNat) + 1 else 0 := by
 unfold ndg
 rw [drop_bt s h0 h1, List.takeWhile_cons, show (y + 1).toNat = y.toNat + 1 by omega]
 split
 ·rw [List.length_cons]
 ·rfl
theorem rdigits (s : ByteArray) (hs : s.size ≤ 1000) (y : Int) (h0 : 0 ≤ y) : ∀ (k : Nat) (j : Int), 0 ≤ j → y + j ≤ (s.size : Int) → (s.size : Int) - (y + j) < k → ah.l0 k s y j = some (j + (ndg ((bytesOf s).drop (y + j).toNat) : Int))
 | 0, j, hj, h1, hk => by omega
 | k + 1, j, hj, h1, hk => by
  rw [ah.l0, tw64 (by omega) (by omega)]
  by_cases hx : y + j < (s.size : Int)
  case neg =>
   have hd : (bytesOf s).drop (y + j).toNat = [] := by rw [List.drop_eq_nil_iff, bytesOf_length]; omega
   rw [if_neg hx, hd]
   simp [ndg]
  have ih := rdigits s hs y h0 k (j + 1) (by omega) (by omega) (by omega)
  have hb := dg_in (s := s) (y := y + j) (by omega) hx
  have hi := isDgt_iff (bt s (y + j))
  rw [if_pos hx, if_pos (by omega), tw64 (by omega) (by omega), ih]
  by_cases c1 : bt s (y + j) ≥ 48
  case neg =>
   rw [if_neg c1, hb, if_neg (fun h => c1 (hi.1 h).1)]
   simp
  rw [if_pos c1]
  by_cases c2 : bt s (y + j) ≤ 57
  case neg =>
   rw [if_neg c2, hb, if_neg (fun h => c2 (hi.1 h).2)]
   simp
  rw [if_pos c2, hb, if_pos (hi.2 ⟨c1, c2⟩), show y + (j + 1) = y + j + 1 by omega]
  congr 1
  omega
theorem digR (s : ByteArray) (hs : s.size ≤ 60) (y : Nat) (hy : y ≤ s.size) {K : Nat} (hK : 100 ≤ K) : ah.f K s (y : Int) = some (ndg ((bytesOf s).drop y) : Int) := by
  unfold ah.f
  have := rdigits s (by omega) (y : Int) (by omega) K 0 (by omega) (by omega) (by omega)
  rw [Int.zero_add, Int.add_zero, Int.toNat_natCast] at this
  exact this
/-- The last part of the test, over lists. -/
def numL (l : List Int) : Bool := decide (ndg l = l.length) && (decide (1 ≤ ndg l) && (decide (ndg l ≤ 40) && (decide (ndg l = 1) || decide (l.headD 0 ≠ 48))))
theorem numOk_l (t : ByteArray) (h : 1 ≤ t.size) : numOk t = numL (bytesOf t) := by
  have hb := bt_here (s := t) (i := 0) (by omega)
  rw [List.drop_zero] at hb
  have hh : (bytesOf t).headD 0 = bt t 0 := by rw [hb]; rfl
  unfold numOk numL
  rw [hh, bytesOf_length]
  congr 1
  rw [decide_eq_decide]
  omega
theorem numOk_nil (t : ByteArray) (h : t.size = 0) : numOk t = false := by
  have e : bytesOf t = [] := List.eq_nil_of_length_eq_zero (by rw [bytesOf_length]; exact h)
  unfold numOk
  rw [e]
  simp [ndg]
theorem minus_iff (s : ByteArray) (h : 1 ≤ s.size) : (s.extract 0 1).toList = [45] ↔ bt s 0 = 45 := by
 have hb := bt_at s 0 (by simp; omega)
 have h1 : (s.extract 0 1).toList = [s[0]'(by omega)] := by
  rw [ByteArray.toList_eq]
  apply List.ext_getElem
  ·rw [Array.length_toList]
   show (s.extract 0 1).size = 1
   rw [ByteArray.size_extract]
   omega
  ·intro i h1 h2
   have : i = 0 := by simpa using h2
   subst this
   simp
   rfl
 rw [h1, ← hb]
 constructor
 ·intro he
  have := List.cons.inj he
  simp only [Int.toNat_zero]
  rw [this.1]
  rfl
 ·intro he
  simp only [Int.toNat_zero] at he
  have : s[0] = 45 := by
   apply UInt8.toNat_inj.1
   have : (s[0].toNat : Int) = 45 := he
   show s[0].toNat = 45
   omega
  rw [this]
theorem num_fin (n L : Nat) (W S c : Int) (h : W = S ↔ n = L) :
 (if (n : Int) ≥ 1 then (if (n : Int) ≤ 40 then (if W = S then (if (n : Int) = 1 then (some true) else (some (c != 48))) else (some false)) else (some false)) else (some false)) = some (decide (n = L) && (decide (1 ≤ n) && (decide (n ≤ 40) && (decide (n = 1) || decide (c ≠ 48))))) := by
 by_cases c1 : (n : Int) ≥ 1
 case neg =>
  rw [if_neg c1, decide_eq_false (show ¬ 1 ≤ n by omega)]
  simp
 by_cases c2 : (n : Int) ≤ 40
 case neg =>
  rw [if_pos c1, if_neg c2, decide_eq_false (show ¬ n ≤ 40 by omega)]
  simp
 by_cases c3 : W = S
 case neg =>
  rw [if_pos c1, if_pos c2, if_neg c3, decide_eq_false (fun q => c3 (h.2 q)), Bool.false_and]
 rw [if_pos c1, if_pos c2, if_pos c3, decide_eq_true (h.1 c3), decide_eq_true (show 1 ≤ n by omega), decide_eq_true (show n ≤ 40 by omega), Bool.true_and, Bool.true_and, Bool.true_and]
 by_cases c4 : (n : Int) = 1
 case pos =>
  rw [if_pos c4, decide_eq_true (show n = 1 by omega), Bool.true_or]
 rw [if_neg c4, decide_eq_false (show ¬ n = 1 by omega), Bool.false_or]
 congr 1
 by_cases c5 : c = 48
 case pos =>
  subst c5; rfl
 rw [decide_eq_true c5]
 exact bne_iff_ne.2 c5
theorem isNumR (s : ByteArray) (hs : s.size ≤ 60) {K : Nat} (hK : 100 ≤ K) : aE.f K s = some (isNumF s) := by
 unfold aE.f isNumF
 have hd0 : ah.f K s 0 = some (ndg ((bytesOf s).drop 0) : Int) := digR s hs 0 (by omega) hK
 rw [List.drop_zero] at hd0
 by_cases h0 : s.size = 0
 case pos =>
  have e : bytesOf s = [] := List.eq_nil_of_length_eq_zero (by rw [bytesOf_length]; exact h0)
  have ht : Hand.trimF s = s := by unfold Hand.trimF; rw [if_neg (by omega)]
  rw [if_neg (by omega), hd0, Option.bind_some, e, ht, numOk_nil s h0, if_neg (by decide)]
 rw [if_pos (by omega), if_pos (by omega)]
 by_cases h45 : bt s 0 = 45
 case neg =>
  have ht : Hand.trimF s = s := by
   unfold Hand.trimF
   rw [if_neg (fun q => h45 ((minus_iff s (by omega)).1 q.2))]
  have hh : (bytesOf s).headD 0 = bt s 0 := by
   have := bt_here (s := s) (i := 0) (by omega)
   rw [List.drop_zero] at this
   rw [this]
   rfl
  have hn := ndg_le (bytesOf s)
  rw [bytesOf_length] at hn
  rw [if_neg h45, hd0, Option.bind_some, ht, numOk_l s (by omega)]
  unfold numL
  rw [hh, bytesOf_length]
  exact num_fin _ _ _ _ _ (by rw [tw64 (by omega) (by omega)]; omega)
 have hd1 : ah.f K s 1 = some (ndg ((bytesOf s).drop 1) : Int) := digR s hs 1 (by omega) hK
 have ht : Hand.trimF s = s.extract 1 s.size := by
  unfold Hand.trimF
  rw [if_pos ⟨by omega, (minus_iff s (by omega)).2 h45⟩]
 have hb : bytesOf (s.extract 1 s.size) = (bytesOf s).drop 1 := bytes_ext s 1
 have hsz : (s.extract 1 s.size).size = s.size - 1 := by simp [ByteArray.size_extract]
 rw [if_pos h45, hd1, Option.bind_some, ht]
 by_cases h1 : s.size = 1
 case pos =>
  have e : (bytesOf s).drop 1 = [] := List.drop_of_length_le p119z
  rw [e, numOk_nil _ (by omega), if_neg (by decide)]
 have hh : ((bytesOf s).drop 1).headD 0 = bt s 1 := by
  have := bt_here (s := s) (i := 1) (by omega)
  rw [this]
  rfl
 rw [if_pos (show (1 : Int) < (s.size : Int) by omega), numOk_l _ (by omega), hb]
 unfold numL
 rw [hh, List.length_drop, bytesOf_length]
 have hn := ndg_le ((bytesOf s).drop 1)
 rw [List.length_drop, bytesOf_length] at hn
 exact num_fin _ _ _ _ _ (by rw [tw64 (by omega) (by omega)]; omega)
end Go.Proofs.YtodnggilomanbaaGreatDoor.Pure
end
section
namespace Go.Proofs.YtodnggilomanbaaGreatDoor.Pure
open Go.RowKit Go.Lib Go.Proofs.YtodnggilomanbaaGreatDoor.PAll Go.Proofs.YtodnggilomanbaaGreatDoorW.PrintWords Go.Proofs.YtodnggilomanbaaGreatDoorW.PrintLast Go.Proofs.YtodnggilomanbaaGreatDoorW.PrintMore Go.Proofs.YtodnggilomanbaaGreatDoor.Hand
set_option linter.unusedVariables false
set_option linter.unusedSimpArgs false

theorem w64 {x : Int} (h0 : -9223372036854775808 ≤ x) (h1 : x ≤ 9223372036854775807) : wrap64 x = x := p76z
set_option maxRecDepth 4000

theorem isBy_take {l : List Int} (h : isBy l = true) (n : Nat) : isBy (l.take n) = true := List.all_eq_true.2 fun x hx => List.all_eq_true.1 h x (List.mem_of_mem_take hx)
theorem isBy_drop {l : List Int} (h : isBy l = true) (n : Nat) : isBy (l.drop n) = true := List.all_eq_true.2 fun x hx => List.all_eq_true.1 h x (List.mem_of_mem_drop hx)
theorem isBy_mem {l : List Int} (h : isBy l = true) {x : Int} (hx : x ∈ l) : 0 ≤ x ∧ x ≤ 255 := by
  have := List.all_eq_true.1 h x hx
  simpa using this
theorem gj (s : ByteArray) : isBy (bytesOf s) = true := by
  refine List.all_eq_true.2 fun x hx => ?_
  simp only [bytesOf, List.mem_map] at hx
  obtain ⟨b, _, rfl⟩ := hx
  have := b.toNat_lt
  simp
  omega
theorem copy_f {l : List Int} (h : l.length < 140737488355328) : aC.f l = some l := by
  unfold aC.f
  rw [if_pos (by simpa using h)]
  rfl
theorem rd_drop {l : List Int} {i : Nat} {c : Int} {u : List Int} (h : l.drop i = c :: u) : rd l i = c ∧ l.drop (i + 1) = u ∧ i < l.length := by
 have hi : i < l.length := by
  rcases Nat.lt_or_ge i l.length with h' | h'
  ·exact h'
  ·rw [List.drop_of_length_le h'] at h
   cases h
 rw [List.drop_eq_getElem_cons hi] at h
 simp only [List.cons.injEq] at h
 refine ⟨?_, h.2, hi⟩
 rw [rd, ← h.1]
 simp [List.getD_eq_getElem?_getD, List.getElem?_eq_getElem hi]
theorem eK {l : List Int} (h : isBy l = true) : bytesOf (strOfNums l) = l := by
  have e : (strOfNums l).data.toList = u8s l := rfl
  rw [bytesOf, e, u8s, List.map_map]
  conv => rhs; rw [← List.map_id l]
  refine List.map_congr_left fun x hx => ?_
  obtain ⟨h0, h1⟩ := isBy_mem h hx
  simp only [Function.comp, id]
  rw [UInt8.toNat_ofNat']
  omega
def rnsL : Nat → List UInt8 → Nat → List Int → List Int × Int × Int
  | 0, _, _, acc => (acc, 0, 0)
  | f + 1, u, pos, acc => if u = [] then (acc, 0, 0) else if (decodeL u).1 = 65533 ∧ (decodeL u).2 = 1 then ([], (pos : Int), 20) else rnsL f (u.drop (decodeL u).2) (pos + (decodeL u).2) (acc ++ [((decodeL u).1 : Int)])
def Kp (p : Prop) : Prop := p
theorem w_nat {a b : Nat} (h : a + b ≤ 4611686018427387904) : wrap64 ((a : Int) + (b : Int)) = ((a + b : Nat) : Int) := by rw [w64 (by omega) (by omega)]; omega
theorem w_one {a : Nat} (h : a < 4611686018427387904) : wrap64 ((a : Int) + 1) = ((a + 1 : Nat) : Int) := by rw [w64 (by omega) (by omega)]; omega
theorem rRune {l : List Int} {n : Int} (hl : l.length ≤ 1099511627776) : az.f l n = some (if isRn n = true then (l ++ encodeRuneZ n, 0) else ([], 20)) := by
 unfold az.f
 have hr : aN.f n = some (isRn n) := by
  unfold aN.f isRn
  by_cases h0 : n ≥ 0
  case neg =>
   rw [if_neg h0, decide_eq_false (show ¬ (0 ≤ n ∧ n < 55296) by omega), decide_eq_false (show ¬ (57343 < n ∧ n ≤ 1114111) by omega)]
   rfl
  rw [if_pos h0]
  by_cases h1 : n ≤ 1114111
  case neg =>
   rw [if_neg h1, decide_eq_false (show ¬ (0 ≤ n ∧ n < 55296) by omega), decide_eq_false (show ¬ (57343 < n ∧ n ≤ 1114111) by omega)]
   rfl
  rw [if_pos h1]
  by_cases h2 : n < 55296
  case pos =>
   rw [if_pos h2, decide_eq_true (show 0 ≤ n ∧ n < 55296 by omega)]; rfl
  rw [if_neg h2, decide_eq_false (show ¬ (0 ≤ n ∧ n < 55296) by omega)]
  simp only [Bool.false_or, Option.some.injEq]
  rw [Bool.eq_iff_iff]
  simp only [decide_eq_true_eq]
  omega
 rw [hr, Option.bind_some]
 by_cases h : isRn n = true
 case neg =>
  rw [if_neg h, if_neg h]

 rw [if_pos h, if_pos h, copy_f (by omega), Option.bind_some]
 have hn := (by simpa [isRn] using h : (0 ≤ n ∧ n < 55296) ∨ (57343 < n ∧ n ≤ 1114111))
 simp only [Option.bind_some, List.length_cons, List.length_nil]
 have t1 : Int.tdiv n 64 = n / 64 := Int.tdiv_eq_ediv_of_nonneg (by omega)
 have t2 : Int.tdiv n 4096 = n / 4096 := Int.tdiv_eq_ediv_of_nonneg (by omega)
 have t3 : Int.tdiv n 262144 = n / 262144 := Int.tdiv_eq_ediv_of_nonneg (by omega)
 have m1 : Int.tmod n 64 = n % 64 := Int.tmod_eq_emod_of_nonneg (by omega)
 have q1 : wrap64 (n / 64) = n / 64 := w64 (by omega) (by omega)
 have q2 : wrap64 (n / 4096) = n / 4096 := w64 (by omega) (by omega)
 have q3 : wrap64 (n / 262144) = n / 262144 := w64 (by omega) (by omega)
 have m2 : Int.tmod (n / 64) 64 = n / 64 % 64 := Int.tmod_eq_emod_of_nonneg (by omega)
 have m3 : Int.tmod (n / 4096) 64 = n / 4096 % 64 := Int.tmod_eq_emod_of_nonneg (by omega)
 rw [t1, t2, t3, m1, q1, q2, q3, m2, m3]
 by_cases c1 : n < 128
 case pos =>
  rw [if_pos c1, if_pos (by omega), encodeRuneZ_one (by omega) (by omega), show n % 256 = n by omega]
 rw [if_neg c1]
 by_cases c2 : n < 2048
 case pos =>
  rw [if_pos c2, if_pos (by omega), encodeRuneZ_two (by omega) (by omega), show (192 + n / 64 % 256) % 256 = 192 + n / 64 by omega, show (128 + n % 64 % 256) % 256 = 128 + n % 64 by omega]
 rw [if_neg c2]
 by_cases c3 : n < 65536
 case pos =>
  rw [if_pos c3, if_pos (by omega), encodeRuneZ_three (by omega), show (224 + n / 4096 % 256) % 256 = 224 + n / 4096 by omega, show (128 + n / 64 % 64 % 256) % 256 = 128 + n / 64 % 64 by omega, show (128 + n % 64 % 256) % 256 = 128 + n % 64 by omega]
 rw [if_neg c3, if_pos (by omega), encodeRuneZ_four (by omega) (by omega), show (240 + n / 262144 % 256) % 256 = 240 + n / 262144 by omega, show (128 + n / 4096 % 64 % 256) % 256 = 128 + n / 4096 % 64 by omega, show (128 + n / 64 % 64 % 256) % 256 = 128 + n / 64 % 64 by omega, show (128 + n % 64 % 256) % 256 = 128 + n % 64 by omega]
def isBad (l : List Int) : Prop := (decodeL (u8s l)).1 = 65533 ∧ (decodeL (u8s l)).2 = 1
instance (l : List Int) : Decidable (isBad l) := by unfold isBad; exact inferInstance
theorem u8_getD {l : List Int} (hB : isBy l = true) (i : Nat) : ((u8s l).getD i 0).toNat = (l.getD i 0).toNat := by
 by_cases h : i < l.length
 case neg =>
  rw [List.getD_eq_getElem?_getD, List.getD_eq_getElem?_getD, List.getElem?_eq_none (by rw [u8s_len]; omega), List.getElem?_eq_none (by omega)]
  rfl
 have hm := isBy_mem hB (List.getElem_mem h)
 rw [List.getD_eq_getElem?_getD, List.getD_eq_getElem?_getD, List.getElem?_eq_getElem (by rw [u8s_len]; exact h), List.getElem?_eq_getElem h]
 simp only [Option.getD_some, u8s, List.getElem_map]
 exact toNat_of hm.1 (by omega)
theorem dec_of {l : List Int} (hB : isBy l = true) : decodeL (u8s l) = decodeN l.length (l.getD 0 0).toNat (l.getD 1 0).toNat (l.getD 2 0).toNat (l.getD 3 0).toNat := by
  rw [decodeL_N, u8s_len, u8_getD hB, u8_getD hB, u8_getD hB, u8_getD hB]
theorem dec_shape {l : List Int} {d : Nat × Nat} (hB : isBy l = true) (hne : l ≠ []) (hd : decodeN l.length (l.getD 0 0).toNat (l.getD 1 0).toNat (l.getD 2 0).toNat (l.getD 3 0).toNat = d) (hg : ¬ (d.1 = 65533 ∧ d.2 = 1)) :
 isRn (d.1 : Int) = true ∧ ∃ rest, l = encodeRuneZ (d.1 : Int) ++ rest ∧ (encodeRuneZ (d.1 : Int)).length = d.2 := by
 rcases l with _ | ⟨b0, l1⟩
 ·exact absurd rfl hne
 obtain ⟨p0, q0⟩ := isBy_mem hB (show b0 ∈ b0 :: l1 by simp)
 have hB1 : isBy l1 = true := isBy_drop hB 1
 unfold decodeN at hd
 simp only [List.getD_cons_zero, List.getD_cons_succ, List.length_cons] at hd
 split at hd
 ·subst hd
  have e := encodeRuneZ_one (r := b0) (by omega) (by omega)
  have e2 : ((b0.toNat : Nat) : Int) = b0 := by omega
  simp only [e2, e, isRn, Bool.or_eq_true, decide_eq_true_eq]
  exact ⟨by omega, l1, rfl, rfl⟩
 ·rcases l1 with _ | ⟨b1, l2⟩
  ·rw [if_neg (by simp), if_neg (by simp), if_neg (by simp)] at hd
   subst hd
   exact absurd ⟨rfl, rfl⟩ hg
  obtain ⟨p1, q1⟩ := isBy_mem hB1 (show b1 ∈ b1 :: l2 by simp)
  have hB2 : isBy l2 = true := isBy_drop hB1 1
  simp only [List.getD_cons_zero, List.getD_cons_succ, List.length_cons] at hd
  split at hd
  ·rename_i h
   split at hd
   ·rename_i h2
    subst hd
    have e := encodeRuneZ_two (r := ((b0.toNat % 32 * 64 + b1.toNat % 64 : Nat) : Int)) (by omega) (by omega)
    have e2 : 192 + ((b0.toNat % 32 * 64 + b1.toNat % 64 : Nat) : Int) / 64 = b0 := by omega
    have e3 : 128 + ((b0.toNat % 32 * 64 + b1.toNat % 64 : Nat) : Int) % 64 = b1 := by omega
    rw [e2, e3] at e
    refine ⟨?_, l2, ?_, ?_⟩
    ·simp only [isRn, Bool.or_eq_true, decide_eq_true_eq]; omega
    ·simp only [e]; rfl
    ·simp only [e]; rfl
   ·subst hd
    exact absurd ⟨rfl, rfl⟩ hg
  ·rcases l2 with _ | ⟨b2, l3⟩
   ·rw [if_neg (by simp), if_neg (by simp)] at hd
    subst hd
    exact absurd ⟨rfl, rfl⟩ hg
   obtain ⟨p2, q2⟩ := isBy_mem hB2 (show b2 ∈ b2 :: l3 by simp)
   have hB3 : isBy l3 = true := isBy_drop hB2 1
   simp only [List.getD_cons_zero, List.getD_cons_succ, List.length_cons] at hd
   split at hd
   ·rename_i h
    split at hd
    ·rename_i h2
     subst hd
     have e := encodeRuneZ_three (r := ((b0.toNat % 16 * 4096 + b1.toNat % 64 * 64 + b2.toNat % 64 : Nat) : Int)) (by omega)
     have e2 : 224 + ((b0.toNat % 16 * 4096 + b1.toNat % 64 * 64 + b2.toNat % 64 : Nat) : Int) / 4096 = b0 := by omega
     have e3 : 128 + ((b0.toNat % 16 * 4096 + b1.toNat % 64 * 64 + b2.toNat % 64 : Nat) : Int) / 64 % 64 = b1 := by omega
     have e4 : 128 + ((b0.toNat % 16 * 4096 + b1.toNat % 64 * 64 + b2.toNat % 64 : Nat) : Int) % 64 = b2 := by omega
     rw [e2, e3, e4] at e
     refine ⟨?_, l3, ?_, ?_⟩
     ·simp only [isRn, Bool.or_eq_true, decide_eq_true_eq]; omega
     ·simp only [e]; rfl
     ·simp only [e]; rfl
    ·subst hd
     exact absurd ⟨rfl, rfl⟩ hg
   ·rcases l3 with _ | ⟨b3, l4⟩
    ·rw [if_neg (by simp)] at hd
     subst hd
     exact absurd ⟨rfl, rfl⟩ hg
    obtain ⟨p3, q3⟩ := isBy_mem hB3 (show b3 ∈ b3 :: l4 by simp)
    simp only [List.getD_cons_zero, List.getD_cons_succ, List.length_cons] at hd
    split at hd
    ·rename_i h
     split at hd
     ·rename_i h2
      subst hd
      have e := encodeRuneZ_four (r := ((b0.toNat % 8 * 262144 + b1.toNat % 64 * 4096 + b2.toNat % 64 * 64 + b3.toNat % 64 : Nat) : Int)) (by omega) (by omega)
      have e2 : 240 + ((b0.toNat % 8 * 262144 + b1.toNat % 64 * 4096 + b2.toNat % 64 * 64 + b3.toNat % 64 : Nat) : Int) / 262144 = b0 := by omega
      have e3 : 128 + ((b0.toNat % 8 * 262144 + b1.toNat % 64 * 4096 + b2.toNat % 64 * 64 + b3.toNat % 64 : Nat) : Int) / 4096 % 64 = b1 := by omega
      have e4 : 128 + ((b0.toNat % 8 * 262144 + b1.toNat % 64 * 4096 + b2.toNat % 64 * 64 + b3.toNat % 64 : Nat) : Int) / 64 % 64 = b2 := by omega
      have e5 : 128 + ((b0.toNat % 8 * 262144 + b1.toNat % 64 * 4096 + b2.toNat % 64 * 64 + b3.toNat % 64 : Nat) : Int) % 64 = b3 := by omega
      rw [e2, e3, e4, e5] at e
      refine ⟨?_, l4, ?_, ?_⟩
      ·simp only [isRn, Bool.or_eq_true, decide_eq_true_eq]; omega
      ·simp only [e]; rfl
      ·simp only [e]; rfl
     ·subst hd
      exact absurd ⟨rfl, rfl⟩ hg
    ·subst hd
     exact absurd ⟨rfl, rfl⟩ hg
theorem dec_ok {l : List Int} (hB : isBy l = true) (hne : l ≠ []) (hg : ¬ isBad l) :
 ∃ (r : Int) (rest : List Int), isRn r = true ∧ l = encodeRuneZ r ++ rest ∧ decodeL (u8s l) = (r.toNat, (encodeRuneZ r).length) := by
 obtain ⟨h1, rest, h2, h3⟩ := dec_shape (d := decodeL (u8s l)) hB hne (dec_of hB).symm hg
 refine ⟨((decodeL (u8s l)).1 : Int), rest, h1, h2, ?_⟩
 refine Prod.ext ?_ ?_
 ·simp
 ·exact h3.symm
theorem enc_good {r : Int} (h : isRn r = true) (rest : List Int) : ¬ isBad (encodeRuneZ r ++ rest) ∧ decodeL (u8s (encodeRuneZ r ++ rest)) = (r.toNat, (encodeRuneZ r).length) := by
  have e := dec_enc h (u8s rest)
  rw [← dX] at e
  refine ⟨?_, e⟩
  unfold isBad
  rw [e]
  simp only
  exact gR h

def lead (c : Int) : Nat := if 240 ≤ c then 4 else if 224 ≤ c then 3 else if 192 ≤ c then 2 else 1
def lnum (c : Int) : Int := if 240 ≤ c then c % 8 else if 224 ≤ c then c % 16 else if 192 ≤ c then c % 32 else c
def fold64 (n : Int) (l : List Int) : Int := l.foldl (fun a b => 64 * a + b % 64) n
def fst8 (l : List Int) : Int × Int :=
  if isRn (fold64 (lnum (l.getD 0 0)) ((l.drop 1).take (lead (l.getD 0 0) - 1))) = true ∧ lead (l.getD 0 0) ≤ l.length ∧ encodeRuneZ (fold64 (lnum (l.getD 0 0)) ((l.drop 1).take (lead (l.getD 0 0) - 1))) = l.take (lead (l.getD 0 0))
  then (fold64 (lnum (l.getD 0 0)) ((l.drop 1).take (lead (l.getD 0 0) - 1)), (lead (l.getD 0 0) : Int)) else (0, 0)
theorem eqb_f {a b : List Int} (ha : isBy a = true) (hb : isBy b = true) : aJ.f a b = some (decide (a = b)) := by
 unfold aJ.f
 congr 1
 rw [Bool.eq_iff_iff]
 simp only [beq_iff_eq, decide_eq_true_eq]
 constructor
 ·intro h
  have h2 : strOfNums a = strOfNums b := by
   rw [ByteArray.toList_eq, ByteArray.toList_eq] at h
   cases hx : strOfNums a; cases hy : strOfNums b
   rw [hx, hy] at h
   simp only at h
   congr 1
   exact Array.toList_inj.1 h
  rw [← eK ha, ← eK hb, h2]
 ·rintro rfl; rfl
theorem first_j2 (l : List Int) (hB : isBy l = true) (m : Nat) (n : Int) (k : Nat) : ai.j2 (k + 1) l (m : Int) n = some (if isRn n = true ∧ m ≤ l.length ∧ encodeRuneZ n = l.take m then (n, (m : Int)) else (0, 0)) := by
 rw [ai.j2, rRune (by simp), Option.bind_some]
 by_cases hr : isRn n = true
 case neg =>
  rw [if_neg hr, if_neg (by decide), if_neg (fun e => hr e.1)]
 rw [if_pos hr, if_pos rfl, List.nil_append]
 by_cases hm : m ≤ l.length
 case neg =>
  rw [if_pos (by omega), if_neg (fun e => hm e.2.1)]
 have hE : isBy (encodeRuneZ n) = true := List.all_eq_true.2 fun x hx => by
  have := encodeRuneZ_byte n x hx
  simp
  omega
 rw [if_neg (by omega), if_pos (by omega), if_pos (by omega), Int.toNat_natCast, eqb_f hE (isBy_take hB m), Option.bind_some]
 by_cases he : encodeRuneZ n = l.take m
 case pos =>
  rw [decide_eq_true he, if_pos rfl, if_pos ⟨hr, hm, he⟩]
 rw [decide_eq_false he, if_neg Bool.false_ne_true, if_neg (fun e => he e.2.2)]
theorem iy {i m : Nat} {n c : Int} (hi : i < 4) (h1 : 1 ≤ i) (h0 : 0 ≤ n) (hn : Kp (n + 1 ≤ 64 ^ i * 256)) (b0 : 0 ≤ c) (b1 : c ≤ 255) :
    wrap64 ((wrap64 (64 * n)) + (wrap64 (Int.tmod c 64))) = 64 * n + c % 64 ∧ 0 ≤ 64 * n + c % 64 ∧ Kp (64 * n + c % 64 + 1 ≤ 64 ^ (i + 1) * 256) := by
  have hp2 : (64 : Int) ^ (i + 1) = 64 ^ i * 64 := Int.pow_succ _ _
  have hp : (64 : Int) ^ i * 256 ≤ 4294967296 := by
    have : i = 1 ∨ i = 2 ∨ i = 3 := by omega
    rcases this with rfl | rfl | rfl <;> decide
  have t1 : Int.tmod c 64 = c % 64 := Int.tmod_eq_emod_of_nonneg b0
  unfold Kp at hn ⊢
  rw [hp2, t1]
  generalize (64 : Int) ^ i = P at hn hp
  unfold wrap64
  omega
theorem first_l0 (l : List Int) (hB : isBy l = true) (hl : l.length ≤ 1099511627776) (m : Nat) (hm : m ≤ 4) (k : Nat) : ∀ (d i : Nat) (n : Int), i + d = m → 1 ≤ i → 0 ≤ n → Kp (n + 1 ≤ 64 ^ i * 256) →
 ai.l0 (d + 2 + k) l (m : Int) n (i : Int) = some (if isRn (fold64 n ((l.drop i).take d)) = true ∧ m ≤ l.length ∧ encodeRuneZ (fold64 n ((l.drop i).take d)) = l.take m then (fold64 n ((l.drop i).take d), (m : Int)) else (0, 0))
 | 0, i, n, hi, h1, h0, hn => by
  have hk : 0 + 2 + k = (k + 1) + 1 := by omega
  have hlt : ¬ (i : Int) < (m : Int) := by omega
  rw [hk, ai.l0, if_neg hlt, first_j2 l hB, List.take_zero]
  rfl
 | d + 1, i, n, hi, h1, h0, hn => by
  rw [show d + 1 + 2 + k = (d + 2 + k) + 1 by omega, ai.l0, if_pos (by omega)]
  rcases hu : l.drop i with _ | ⟨c, u⟩
  ·have := List.drop_eq_nil_iff.1 hu
   rw [if_neg (by omega), show d + 2 + k = (d + 1 + k) + 1 by omega, first_j2 l hB]
   simp [fold64]
  ·obtain ⟨e1, e2, e3⟩ := rd_drop hu
   obtain ⟨b0, b1⟩ := isBy_mem (isBy_drop hB i) (show c ∈ l.drop i by rw [hu]; simp)
   obtain ⟨s1, s2, s3⟩ := iy (m := m) (by omega) h1 h0 hn b0 b1
   have g1 : (i : Int) < (l.length : Int) := by omega
   have g2 : (0 : Int) ≤ (i : Int) := by omega
   have g3 : i + 1 + d = m := by omega
   have ih := first_l0 l hB hl m hm k d (i + 1) (64 * n + c % 64) g3 (Nat.le_add_left _ _) s2 s3
   rw [if_pos g1, if_pos g2, e1, s1, w_one (by omega), ih, e2]
   rfl
theorem rfirst {l : List Int} {k : Nat} (hB : isBy l = true) (hl : l.length ≤ 1099511627776) (hne : l ≠ []) (hk : 10 ≤ k) : ai.f k l = some (fst8 l) := by
 obtain ⟨c, u, rfl⟩ : ∃ c u, l = c :: u := by
  rcases l with _ | ⟨c, u⟩
  ·exact absurd rfl hne
  ·exact ⟨c, u, rfl⟩
 obtain ⟨b0, b1⟩ := isBy_mem hB (show c ∈ c :: u by simp)
 have hrd : rd (c :: u) 0 = c := rfl
 have go : ∀ (m : Nat) (n : Int), 1 ≤ m → m ≤ 4 → 0 ≤ n → n ≤ 255 → ai.j0 k (c :: u) (m : Int) n = some (if isRn (fold64 n (u.take (m - 1))) = true ∧ m ≤ (c :: u).length ∧ encodeRuneZ (fold64 n (u.take (m - 1))) = (c :: u).take m then (fold64 n (u.take (m - 1)), (m : Int)) else (0, 0)) := by
  intro m n h1 h4 h0 h255
  obtain ⟨q, rfl⟩ : ∃ q, k = q + 1 := ⟨k - 1, by omega⟩
  have := first_l0 (c :: u) hB hl m h4 (q - (m - 1 + 2)) (m - 1) 1 n (by omega) (Nat.le_refl _) h0 (by unfold Kp; omega)
  rw [show m - 1 + 2 + (q - (m - 1 + 2)) = q by omega] at this
  rw [ai.j0]
  exact this
 unfold ai.f fst8 lead lnum
 rw [if_pos (by simp only [List.length_cons]; omega), hrd, List.getD_cons_zero, List.drop_succ_cons, List.drop_zero]
 rw [Int.tmod_eq_emod_of_nonneg b0, Int.tmod_eq_emod_of_nonneg b0, Int.tmod_eq_emod_of_nonneg b0, w64 (x := c % 8) (by omega) (by omega), w64 (x := c % 16) (by omega) (by omega), w64 (x := c % 32) (by omega) (by omega), w64 (x := c) (by omega) (by omega)]
 by_cases c1 : c ≥ 240
 case pos =>
  rw [if_pos c1, if_pos (show 240 ≤ c from c1), if_pos (show 240 ≤ c from c1)]
  exact go 4 (c % 8) (by decide) (by decide) (by omega) (by omega)
 rw [if_neg c1, if_neg (show ¬ 240 ≤ c from c1), if_neg (show ¬ 240 ≤ c from c1)]
 by_cases c2 : c ≥ 224
 case pos =>
  rw [if_pos c2, if_pos (show 224 ≤ c from c2), if_pos (show 224 ≤ c from c2)]
  exact go 3 (c % 16) (by decide) (by decide) (by omega) (by omega)
 rw [if_neg c2, if_neg (show ¬ 224 ≤ c from c2), if_neg (show ¬ 224 ≤ c from c2)]
 by_cases c3 : c ≥ 192
 case neg =>
  rw [if_neg c3, if_neg (show ¬ 192 ≤ c from c3), if_neg (show ¬ 192 ≤ c from c3)]
  exact go 1 c (by decide) (by decide) b0 b1
 rw [if_pos c3, if_pos (show 192 ≤ c from c3), if_pos (show 192 ≤ c from c3)]
 exact go 2 (c % 32) (by decide) (by decide) (by omega) (by omega)
theorem fst8_enc {r : Int} (h : isRn r = true) (rest : List Int) : fst8 (encodeRuneZ r ++ rest) = (r, ((encodeRuneZ r).length : Int)) := by
 have hr := isRn_of h
 have fin : ∀ (e : List Int) (m : Nat), encodeRuneZ r = e → lead ((e ++ rest).getD 0 0) = m → e.length = m → fold64 (lnum ((e ++ rest).getD 0 0)) (((e ++ rest).drop 1).take (m - 1)) = r → fst8 (encodeRuneZ r ++ rest) = (r, ((encodeRuneZ r).length : Int)) := by
  intro e m he h1 h2 h3
  unfold fst8
  rw [he, h1, h3, he, if_pos ⟨h, by rw [List.length_append]; omega, by rw [← h2, List.take_left]⟩, h2]
 by_cases c1 : r ≤ 127
 case pos =>
  refine fin [r] 1 (encodeRuneZ_one (by omega) c1) ?_ rfl ?_
  ·unfold lead; simp only [List.cons_append, List.getD_cons_zero]; rw [if_neg (by omega), if_neg (by omega), if_neg (by omega)]
  ·unfold lnum; simp only [List.cons_append, List.getD_cons_zero]; rw [if_neg (by omega), if_neg (by omega), if_neg (by omega)]; simp [fold64]
 by_cases c2 : r ≤ 2047
 case pos =>
  refine fin [192 + r / 64, 128 + r % 64] 2 (encodeRuneZ_two (by omega) c2) ?_ rfl ?_
  ·unfold lead; simp only [List.cons_append, List.getD_cons_zero]; rw [if_neg (by omega), if_neg (by omega), if_pos (by omega)]
  ·unfold lnum; simp only [List.cons_append, List.getD_cons_zero, List.drop_succ_cons, List.drop_zero]; rw [if_neg (by omega), if_neg (by omega), if_pos (by omega)]; simp only [fold64, Nat.reduceSub, List.take_succ_cons, List.take_zero, List.foldl_cons, List.foldl_nil]; omega
 by_cases c3 : r ≤ 65535
 case neg =>
  refine fin [240 + r / 262144, 128 + r / 4096 % 64, 128 + r / 64 % 64, 128 + r % 64] 4 (encodeRuneZ_four (by omega) (by omega)) ?_ rfl ?_
  ·unfold lead; simp only [List.cons_append, List.getD_cons_zero]; rw [if_pos (by omega)]
  ·unfold lnum; simp only [List.cons_append, List.getD_cons_zero, List.drop_succ_cons, List.drop_zero]; rw [if_pos (by omega)]; simp only [fold64, Nat.reduceSub, List.take_succ_cons, List.take_zero, List.foldl_cons, List.foldl_nil]; omega
 refine fin [224 + r / 4096, 128 + r / 64 % 64, 128 + r % 64] 3 (encodeRuneZ_three (by omega)) ?_ rfl ?_
 ·unfold lead; simp only [List.cons_append, List.getD_cons_zero]; rw [if_neg (by omega), if_pos (by omega)]
 ·unfold lnum; simp only [List.cons_append, List.getD_cons_zero, List.drop_succ_cons, List.drop_zero]; rw [if_neg (by omega), if_pos (by omega)]; simp only [fold64, Nat.reduceSub, List.take_succ_cons, List.take_zero, List.foldl_cons, List.foldl_nil]; omega
theorem fst8_bad {l : List Int} (h : isBad l) : fst8 l = (0, 0) := by
  unfold fst8
  refine if_neg fun hh => ?_
  obtain ⟨h1, h2, h3⟩ := hh
  have e := (enc_good h1 (l.drop (lead (l.getD 0 0)))).1
  rw [h3, List.take_append_drop] at e
  exact e h

theorem eM (l : List Int) (hB : isBy l = true) (hl : l.length ≤ 1000) : ∀ (f : Nat) (u : List Int) (p k : Nat) (acc : List Int), l.drop p = u → u.length < f → acc.length ≤ p → p ≤ l.length → f + 10 ≤ k → av.l0 k l acc (p : Int) = some (rnsL f (u8s u) p acc)
 | 0, u, p, k, acc, hu, hf, ha, hp, hk => by omega
 | f + 1, u, p, k, acc, hu, hf, ha, hp, hk => by
  obtain ⟨q, rfl⟩ : ∃ q, k = q + 1 := ⟨k - 1, by omega⟩
  have hul : u.length = l.length - p := by rw [← hu, List.length_drop]
  have hBu : isBy u = true := by rw [← hu]; exact isBy_drop hB p
  rw [av.l0, rnsL]
  by_cases hn : u = []
  case pos =>
   have h0 : u8s u = [] := by rw [hn]; rfl
   rw [if_neg (by rw [hn] at hul; simp at hul; omega), if_pos h0]
  have h0 : u8s u ≠ [] := fun e => hn (List.eq_nil_of_length_eq_zero (by rw [← u8s_len, e]; rfl))
  have hpos : 1 ≤ u.length := List.length_pos_iff.2 hn
  rw [if_pos (by omega), if_pos (by omega), if_pos (by omega), Int.toNat_natCast, hu, rfirst hBu (by omega) hn (by omega), Option.bind_some, if_neg h0]
  by_cases hb : isBad u
  case pos =>
   have hb2 := hb
   unfold isBad at hb2
   rw [fst8_bad hb, if_pos rfl, if_pos hb2]
  obtain ⟨r, rest, h1, h2, h3⟩ := dec_ok hBu hn hb
  have hb2 := hb
  unfold isBad at hb2
  have hr := isRn_of h1
  have hlen := encodeRuneZ_length r
  have hul2 : u.length = (encodeRuneZ r).length + rest.length := by rw [h2, List.length_append]
  have hf8 : fst8 u = (r, ((encodeRuneZ r).length : Int)) := by rw [h2]; exact fst8_enc h1 rest
  have hdr : (u8s u).drop (encodeRuneZ r).length = u8s rest := by rw [h2, dX, enc_drop]
  have hdr2 : l.drop (p + (encodeRuneZ r).length) = rest := by rw [← List.drop_drop, hu, h2, List.drop_left]
  have hz : ¬ ((encodeRuneZ r).length : Int) = 0 := by omega
  have ha2 : acc.length < 17592186044416 := by omega
  rw [hf8, if_neg hz, if_pos ha2, if_neg hb2, h3]
  simp only
  rw [w_nat (by omega), show ((r.toNat : Nat) : Int) = r by omega, hdr]
  exact eM l hB hl f rest _ q _ hdr2 (by omega) (by rw [List.length_append]; simp; omega) (by omega) (by omega)
theorem rRunes {l : List Int} {k : Nat} (hB : isBy l = true) (hl : l.length ≤ 1000) (hk : l.length + 11 ≤ k) : av.f k l = some (rnsL (l.length + 1) (u8s l) 0 []) := by
  unfold av.f
  exact eM l hB hl (l.length + 1) l 0 k [] rfl (by omega) (by simp) (by omega) (by omega)
theorem rns_like : ∀ (f : Nat) (u : List Int) (p : Nat) (acc : List Int), isBy u = true → u.length < f →
 (validD (u8s u) = true ∧ ∃ rs, (∀ r ∈ rs, isRn r = true) ∧ rs.length ≤ u.length ∧ u = encs8 rs ∧ rnsL f (u8s u) p acc = (acc ++ rs, 0, 0)) ∨
 (validD (u8s u) = false ∧ ∃ (a : Nat), a < u.length ∧ rnsL f (u8s u) p acc = ([], ((p + a : Nat) : Int), 20) ∧ isBad (u.drop a) ∧ ∃ rs, (∀ r ∈ rs, isRn r = true) ∧ rs.length ≤ a ∧ u.take a = encs8 rs)
 | 0, u, p, acc, hB, hf => by omega
 | f + 1, u, p, acc, hB, hf => by
  rw [rnsL]
  by_cases hn : u = []
  case pos =>
   left
   subst hn
   exact ⟨rfl, [], by simp, Nat.le_refl _, rfl, by simp [u8s]⟩
  have h0 : u8s u ≠ [] := fun e => hn (List.eq_nil_of_length_eq_zero (by rw [← u8s_len, e]; rfl))
  have hpos : 1 ≤ u.length := List.length_pos_iff.2 hn
  rw [if_neg h0, validD_step _ h0]
  by_cases hb : isBad u
  case pos =>
   have hb2 := hb
   unfold isBad at hb2
   right
   rw [if_pos hb2, if_pos hb2]
   exact ⟨rfl, 0, by omega, rfl, hb, [], by simp, Nat.le_refl _, rfl⟩
  obtain ⟨r, rest, h1, h2, h3⟩ := dec_ok hB hn hb
  have hb2 := hb
  unfold isBad at hb2
  have hr := isRn_of h1
  have hlen := encodeRuneZ_length r
  have hul2 : u.length = (encodeRuneZ r).length + rest.length := by rw [h2, List.length_append]
  have hdr : (u8s u).drop (encodeRuneZ r).length = u8s rest := by rw [h2, dX, enc_drop]
  have hBr : isBy rest = true := by
   have := isBy_drop hB (encodeRuneZ r).length
   rwa [h2, List.drop_left] at this
  rw [if_neg hb2, if_neg hb2, h3]
  simp only
  rw [show ((r.toNat : Nat) : Int) = r by omega, hdr]
  rcases rns_like f rest (p + (encodeRuneZ r).length) (acc ++ [r]) hBr (by omega) with ⟨v, rs, g1, g2, g3, g4⟩ | ⟨v, a, g1, g2, g3, rs, g4, g5, g6⟩
  ·left
   refine ⟨v, r :: rs, ?_, by simp; omega, ?_, ?_⟩
   ·intro x hx
    rcases List.mem_cons.1 hx with rfl | hx
    ·exact h1
    ·exact g1 x hx
   ·rw [h2, g3]; rfl
   ·rw [g4]; simp
  ·right
   refine ⟨v, (encodeRuneZ r).length + a, by omega, ?_, ?_, r :: rs, ?_, by simp; omega, ?_⟩
   ·rw [g2, Nat.add_assoc]
   ·rw [h2, ← List.drop_drop, List.drop_left]; exact g3
   ·intro x hx
    rcases List.mem_cons.1 hx with rfl | hx
    ·exact h1
    ·exact g4 x hx
   ·rw [h2, List.take_length_add_append, g6]; rfl
/-- Valid. -/
theorem rvalid {l : List Int} (hB : isBy l = true) (hl : l.length ≤ 1000) {k : Nat} (hk : l.length + 11 ≤ k) : aq.f k l = some (validD (u8s l)) := by
 unfold aq.f
 rw [rRunes hB hl hk, Option.bind_some]
 rcases rns_like (l.length + 1) l 0 [] hB (by omega) with ⟨v, rs, g1, g2, g3, g4⟩ | ⟨v, a, g1, g2, g3, g4⟩
 ·rw [g4, v]
  rfl
 ·rw [g2, v]
  rfl
end Go.Proofs.YtodnggilomanbaaGreatDoor.Pure
end
section
namespace Go.Proofs.YtodnggilomanbaaGreatDoor.Pure
open Go.RowKit Go.Lib Go.Proofs.YtodnggilomanbaaGreatDoor.PAll Go.Proofs.YtodnggilomanbaaGreatDoorW.PrintWords Go.Proofs.YtodnggilomanbaaGreatDoorW.PrintLast Go.Proofs.YtodnggilomanbaaGreatDoorW.PrintMore Go.Proofs.YtodnggilomanbaaGreatDoor.Hand
set_option linter.unusedVariables false
set_option linter.unusedSimpArgs false

theorem conv_f {s : ByteArray} (h : s.size ≤ 60) : bI.f s = some (bytesOf s) := by unfold bI.f; rw [if_pos (by omega)]
theorem validR {s : ByteArray} (h : s.size ≤ 60) {K : Nat} (hK : 80 ≤ K) : aq.f K (bytesOf s) = some (!badF s) := by
  rw [rvalid (gj s) p119z p119z]
  unfold badF
  rw [Bool.not_not]
theorem rdk_mem {ks : List ByteArray} {i : Nat} (h : i < ks.length) : rdOf ByteArray.empty ks (i : Int) ∈ ks := by
  unfold rdOf
  rw [Int.toNat_natCast, List.getD_eq_getElem?_getD, List.getElem?_eq_getElem h]
  exact List.getElem_mem h
theorem rdk_get {ks : List ByteArray} {i : Nat} (h : i < ks.length) : ks[i]? = some (rdOf ByteArray.empty ks (i : Int)) := by
  unfold rdOf
  rw [Int.toNat_natCast, List.getD_eq_getElem?_getD, List.getElem?_eq_getElem h]
  rfl
/-- The keys from a place on are texts, and none is one before it. -/
def okFrom (ks : List ByteArray) : Nat → Nat → Bool
  | 0, _ => true
  | m + 1, i => (!badF (rdOf ByteArray.empty ks (i : Int)) && (ks.take i).all (fun y => decide (y ≠ rdOf ByteArray.empty ks (i : Int)))) && okFrom ks m (i + 1)
theorem dY (ks : List ByteArray) : ∀ (m i : Nat), i + m = ks.length → (ks.take i).Nodup → (okFrom ks m i = true ↔ (∀ q ∈ ks.drop i, badF q = false) ∧ ks.Nodup)
 | 0, i, hm, h0 => by
  rw [List.take_of_length_le (by omega)] at h0
  rw [okFrom, List.drop_of_length_le (by omega)]
  simp [h0]
 | m + 1, i, hm, h0 => by
  have hi : i < ks.length := by omega
  have hd : ks.drop i = rdOf ByteArray.empty ks (i : Int) :: ks.drop (i + 1) := rdT_drop hi
  have ht : ks.take (i + 1) = ks.take i ++ [rdOf ByteArray.empty ks (i : Int)] := take_snoc (rdk_get hi)
  have hnd : ks.Nodup → (ks.take (i + 1)).Nodup := fun h => h.sublist (List.take_sublist _ _)
  have happ : (ks.take (i + 1)).Nodup ↔ (ks.take i).Nodup ∧ ∀ y ∈ ks.take i, y ≠ rdOf ByteArray.empty ks (i : Int) := by
   rw [ht, List.nodup_append]
   constructor
   ·rintro ⟨a, _, c⟩
    exact ⟨a, fun y hy => c y hy _ (by simp)⟩
   ·rintro ⟨a, c⟩
    exact ⟨a, by simp, fun y hy z hz => by simp at hz; subst hz; exact c y hy⟩
  rw [okFrom, Bool.and_eq_true, Bool.and_eq_true, hd]
  simp only [Bool.not_eq_true', List.all_eq_true, decide_eq_true_eq, List.mem_cons, forall_eq_or_imp]
  constructor
  ·rintro ⟨⟨a, b⟩, c⟩
   obtain ⟨c1, c2⟩ := (dY ks m (i + 1) (by omega) (happ.2 ⟨h0, b⟩)).1 c
   exact ⟨⟨a, c1⟩, c2⟩
  ·rintro ⟨⟨a, c1⟩, c2⟩
   have hn := hnd c2
   exact ⟨⟨a, (happ.1 hn).2⟩, (dY ks m (i + 1) (by omega) hn).2 ⟨c1, c2⟩⟩
section
variable (d k : Int) (s : ByteArray) (ks : List ByteArray) (L : List S28)
theorem may_l1 (F : Bool → Bool) (C i : Nat) (hi : i < ks.length) (hl : ks.length ≤ 8) (hF : ∀ b K, C ≤ K → a6.l0 K d b ((i + 1 : Nat) : Int) k s ks (toRL L) = some (F b)) :
 ∀ (m j : Nat) (b : Bool), j + m = i → ∀ K, C + m + 1 ≤ K → a6.l1 K d b (i : Int) (j : Int) k s ks (toRL L) = some (F (b && ((ks.take i).drop j).all (fun y => decide (y ≠ rdOf ByteArray.empty ks (i : Int)))))
 | m, j, b, hm, 0, hK => by omega
 | 0, j, b, hm, K + 1, hK => by
  rw [a6.l1, if_neg (by omega), wrap_nat (by omega), hF b K (by omega), List.drop_of_length_le (by rw [List.length_take]; omega)]
  simp
 | m + 1, j, b, hm, K + 1, hK => by
  have hj : j < (ks.take i).length := by rw [List.length_take]; omega
  have hd : (ks.take i).drop j = rdOf ByteArray.empty ks (j : Int) :: (ks.take i).drop (j + 1) := by
   rw [List.drop_eq_getElem_cons hj]
   congr 1
   rw [List.getElem_take]
   unfold rdOf
   rw [Int.toNat_natCast, List.getD_eq_getElem?_getD, List.getElem?_eq_getElem (show j < ks.length by omega)]
   rfl
  rw [a6.l1, if_pos (by omega), wrap_nat (by omega), hd, List.all_cons]
  by_cases hb : b = true
  case neg =>
   have hb : b = false := by simpa using hb
   subst hb
   rw [if_neg (by decide), may_l1 F C i hi hl hF m (j + 1) false (by omega) K (by omega), Bool.false_and, Bool.false_and]
  subst hb
  rw [if_pos rfl, if_pos (by omega), if_pos (by omega), if_pos (by omega), if_pos (by omega), may_l1 F C i hi hl hF m (j + 1) _ (by omega) K (by omega), Bool.true_and]
  congr 2
  by_cases hc : rdOf ByteArray.empty ks (j : Int) = rdOf ByteArray.empty ks (i : Int)
  case pos =>
   rw [hc]; simp
  have h2 : (rdOf ByteArray.empty ks (j : Int)).toList ≠ (rdOf ByteArray.empty ks (i : Int)).toList := fun h => hc (toList_inj.1 h)
  rw [bne_iff_ne.2 h2, decide_eq_true hc]
theorem may_l2 {q : Nat} (hq : ∀ (x : S28) (e : Int), Fw q x → 0 ≤ e → e ≤ 100 → ∀ K, 400 * q + 1 ≤ K → a6.f K (toR x).f0 (toR x).f1 (toR x).f2 (toR x).f3 e = some (mayF x e)) (hd : 0 ≤ d ∧ d < 100) (hL : ∀ x ∈ L, Fw q x) (hl : L.length ≤ 8) :
 ∀ (m i : Nat) (b : Bool), i + m = L.length → ∀ K, 400 * q + m + 2 ≤ K → a6.l2 K d b (i : Int) k s ks (toRL L) = some (b && mayL (L.drop i) (d + 1))
 | m, i, b, hm, 0, hK => by omega
 | 0, i, b, hm, K + 1, hK => by
  rw [a6.l2, if_neg p94z, List.drop_of_length_le (by omega), mayL, Bool.and_true]
 | m + 1, i, b, hm, K + 1, hK => by
  have hi : i < L.length := by omega
  rw [a6.l2, if_pos p94z]
  by_cases hb : b = true
  case neg =>
   have hb : b = false := by simpa using hb
   subst hb
   rw [if_neg (by decide), Bool.false_and]
  subst hb
  have hw : wrap64 (d + 1) = d + 1 := tw64 (by omega) (by omega)
  rw [if_pos rfl, if_pos (by omega), rd37_at L i hi, hw, hq _ (d + 1) (hL _ (rd28_mem hi)) (by omega) (by omega) K (by omega), Option.bind_some, wrap_nat (by omega), may_l2 hq hd hL hl m (i + 1) _ (by omega) K (by omega), rd28_drop hi, mayL, Bool.true_and]
theorem may_l0 {q : Nat} (hq : ∀ (x : S28) (e : Int), Fw q x → 0 ≤ e → e ≤ 100 → ∀ K, 400 * q + 1 ≤ K → a6.f K (toR x).f0 (toR x).f1 (toR x).f2 (toR x).f3 e = some (mayF x e)) (hd : 0 ≤ d ∧ d < 100) (hL : ∀ x ∈ L, Fw q x) (hl : L.length ≤ 8) (hks : ks.length ≤ 8) (h20 : ∀ y ∈ ks, y.size ≤ 20) :
 ∀ (m i : Nat) (b : Bool), i + m = ks.length → ∀ K, 400 * q + 100 + 14 * m ≤ K → a6.l0 K d b (i : Int) k s ks (toRL L) = some ((b && okFrom ks m i) && mayL L (d + 1))
 | m, i, b, hm, 0, hK => by omega
 | m, i, b, hm, 1, hK => by omega
 | 0, i, b, hm, K + 2, hK => by
  have h2 := fun b => may_l2 d k s ks L hq hd hL hl L.length 0 b (by omega) K (by omega)
  have h3 := h2 b
  rw [List.drop_zero] at h3
  rw [a6.l0, if_neg (by omega), a6.j3, if_neg (by decide), okFrom, Bool.and_true]
  exact h3
 | m + 1, i, b, hm, K + 2, hK => by
  have hi : i < ks.length := by omega
  rw [a6.l0, if_pos (by omega), a6.j3]
  by_cases hb : b = true
  case neg =>
   have hb : b = false := by simpa using hb
   subst hb
   have h2 := may_l2 d k s ks L hq hd hL hl L.length 0 false (by omega) K (by omega)
   rw [if_neg (by decide), Bool.false_and, Bool.false_and]
   rw [Bool.false_and] at h2
   exact h2
  subst hb
  have h2 := h20 _ (rdk_mem hi)
  have h3 := may_l1 d k s ks L (fun b => (b && okFrom ks m (i + 1)) && mayL L (d + 1)) (400 * q + 100 + 14 * m) i hi hks (fun b K hK => may_l0 hq hd hL hl hks h20 m (i + 1) b (by omega) K hK) i 0 (!badF (rdOf ByteArray.empty ks (i : Int))) (by omega) K (by omega)
  rw [if_pos rfl, if_pos (by omega), if_pos (by omega), conv_f (by omega), Option.bind_some, validR (by omega) (show 80 ≤ K by omega), Option.bind_some]
  rw [List.drop_zero] at h3
  rw [okFrom, Bool.true_and]
  exact h3
end
theorem okNil {ks : List ByteArray} (h : ks.length = 0) : okFrom ks ks.length 0 = true := by rw [h, okFrom]
theorem ok7 (ks : List ByteArray) : okFrom ks ks.length 0 = (decide (dsz ks = ks.length) && !(ks.any badF)) := by
 rw [Bool.eq_iff_iff, dY ks ks.length 0 (by omega) (by simp), List.drop_zero, Bool.and_eq_true, decide_eq_true_eq, dsz_nodup]
 constructor
 ·rintro ⟨a, b⟩
  refine ⟨b, ?_⟩
  rw [Bool.not_eq_true', Bool.eq_false_iff]
  intro h
  obtain ⟨x, hx, hb⟩ := List.any_eq_true.1 h
  rw [a x hx] at hb
  cases hb
 ·rintro ⟨b, a⟩
  refine ⟨fun q hq => ?_, b⟩
  cases hb : badF q with
  | false => rfl
  | true =>
   rw [Bool.not_eq_true', Bool.eq_false_iff] at a
   exact absurd (List.any_eq_true.2 ⟨q, hq, hb⟩) a
theorem mayR_at : ∀ (q : Nat), q ≤ 8 → ∀ (n : S28) (e : Int), Fw q n → 0 ≤ e → e ≤ 100 → ∀ K, 400 * q + 1 ≤ K → a6.f K (toR n).f0 (toR n).f1 (toR n).f2 (toR n).f3 e = some (mayF n e)
 | 0, _, n, e, h, h0, h1, K, hK => p92z
 | q + 1, hq8, n, e, h, he0, he1, 0, hK => by omega
 | q + 1, hq8, n, e, h, he0, he1, 1, hK => by omega
 | q + 1, hq8, n, e, h, he0, he1, 2, hK => by omega
 | q + 1, hq8, n, e, h, he0, he1, K + 3, hK => by
  unfold Fw at h
  obtain ⟨h0, h1, h2, h3, h4⟩ := h
  obtain ⟨k, s, ks, L⟩ := n
  simp only at h0 h1 h2 h3 h4
  rw [a6.f, toR_at, mayF]
  simp only
  by_cases c60 : e > 60
  case pos =>
   rw [if_pos c60, decide_eq_false (show ¬ e ≤ 60 by omega)]
   simp
  rw [if_neg c60, decide_eq_true (show e ≤ 60 by omega), Bool.and_true]
  have hG : ∀ b, a6.j1 (K + 1) e b k s ks (toRL L) = some ((b && okFrom ks ks.length 0) && mayL L (e + 1)) := by
   intro b
   rw [a6.j1]
   exact may_l0 e k s ks L (fun x e' hx a b K hK => mayR_at q (by omega) x e' hx a b K hK) ⟨he0, by omega⟩ h4 h3 h1 h2 ks.length 0 b (by omega) K (by omega)
  have hj : (if k = 1 then a6.j0 (K + 2) e k (k == 1) k s ks (toRL L) else if k = 2 then a6.j0 (K + 2) e k (k == 2) k s ks (toRL L) else a6.j0 (K + 2) e k (k == 3) k s ks (toRL L)) = a6.j0 (K + 2) e k (decide (k = 1 ∨ k = 2 ∨ k = 3)) k s ks (toRL L) := by
   by_cases c1 : k = 1
   case pos =>
    subst c1; rfl
   rw [if_neg c1]
   by_cases c2 : k = 2
   case pos =>
    subst c2; rfl
   rw [if_neg c2]
   by_cases c3 : k = 3
   case pos =>
    subst c3; rfl
   rw [decide_eq_false (by omega)]
   congr 1
   exact beq_eq_false_iff_ne.2 c3
  have hem : s.toList.isEmpty = decide (s.toList = []) := by cases s.toList <;> simp
  have hL0 : (((toRL L).length : Int) == 0) = decide (L.length = 0) := by
   rw [toRL_len, Bool.eq_iff_iff, beq_iff_eq, decide_eq_true_eq]
   omega
  have hk0 : ((ks.length : Int) == 0) = decide (ks.length = 0) := by
   rw [Bool.eq_iff_iff, beq_iff_eq, decide_eq_true_eq]
   omega
  -- what has neither keys nor parts
  have leafG : ∀ b : Bool, (if b = true then (if (ks.length : Int) = 0 then a6.j1 (K + 1) e (((toRL L).length : Int) == 0) k s ks (toRL L) else a6.j1 (K + 1) e false k s ks (toRL L)) else a6.j1 (K + 1) e false k s ks (toRL L)) = some (((decide (ks.length = 0) && decide (L.length = 0)) && b) && mayL L (e + 1)) := by
   intro b
   cases b with
   | false => rw [if_neg (by decide), hG, Bool.false_and, Bool.and_false]
   | true =>
    rw [if_pos rfl, Bool.and_true]
    by_cases ck : ks.length = 0
    case neg =>
     rw [if_neg (by omega), hG, decide_eq_false ck]
     simp
    rw [if_pos (by omega), hG, hL0, okNil ck, Bool.and_true, decide_eq_true ck, Bool.true_and]
  rw [hj, a6.j0]
  unfold isF
  by_cases c123 : k = 1 ∨ k = 2 ∨ k = 3
  case pos =>
   rw [decide_eq_true c123, if_pos rfl, if_pos c123, hem]
   have := leafG (decide (s.toList = []))
   by_cases cs : s.toList = []
   case pos =>
    rw [decide_eq_true cs] at this ⊢
    rw [if_pos rfl] at this
    rw [if_pos cs]
    exact this
   rw [decide_eq_false cs] at this ⊢
   rw [if_neg (by decide)] at this
   rw [if_neg cs]
   exact this
  rw [decide_eq_false c123, if_neg (by decide), if_neg c123]
  by_cases c4 : k = 4
  case pos =>
   rw [if_pos c4, if_pos c4, isNumR s h0 (show 100 ≤ K + 1 by omega), Option.bind_some]
   exact leafG _
  rw [if_neg c4, if_neg c4]
  by_cases c5 : k = 5
  case pos =>
   rw [if_pos c5, if_pos c5, conv_f h0, Option.bind_some, validR h0 (show 80 ≤ K + 1 by omega), Option.bind_some]
   exact leafG _
  rw [if_neg c5, if_neg c5]
  by_cases c6 : k = 6
  case pos =>
   rw [if_pos c6, if_pos c6, hem]
   by_cases cs : s.toList = []
   case neg =>
    rw [if_neg cs, hG, decide_eq_false cs]
    simp
   rw [if_pos cs, hG, hk0, decide_eq_true cs, Bool.true_and]
   by_cases ck : ks.length = 0
   case pos =>
    rw [okNil ck, Bool.and_true]
   rw [decide_eq_false ck, Bool.false_and]
  rw [if_neg c6, if_neg c6]
  by_cases c7 : k = 7
  case neg =>
   rw [if_neg c7, if_neg c7, hG, Bool.false_and]
  rw [if_pos c7, if_pos c7, hem]
  by_cases cs : s.toList = []
  case neg =>
   rw [if_neg cs, hG, decide_eq_false cs]
   simp
  have hkl : ((ks.length : Int) == ((toRL L).length : Int)) = decide (ks.length = L.length) := by
   rw [toRL_len, Bool.eq_iff_iff, beq_iff_eq, decide_eq_true_eq]
   omega
  rw [if_pos cs, hG, hkl, ok7, decide_eq_true cs, Bool.true_and]
  simp [Bool.and_assoc]
end Go.Proofs.YtodnggilomanbaaGreatDoor.Pure
end
section
namespace Go.Proofs.YtodnggilomanbaaGreatDoor.Pure
open Go.RowKit Go.Lib Go.Proofs.YtodnggilomanbaaGreatDoor.PAll Go.Proofs.YtodnggilomanbaaGreatDoorW.PrintWords Go.Proofs.YtodnggilomanbaaGreatDoorW.PrintLast Go.Proofs.YtodnggilomanbaaGreatDoorW.PrintMore Go.Proofs.YtodnggilomanbaaGreatDoor.Hand
set_option linter.unusedVariables false
set_option linter.unusedSimpArgs false

theorem okML_of : ∀ l : List S28, (∀ x ∈ l, okM x = true) → okML l = true
  | [], _ => by rw [okML]
  | x :: l, h => by rw [okML, h x (by simp), okML_of l (fun y hy => h y (by simp [hy]))]; rfl
theorem okM_of : ∀ (k : Nat) (n : S28), Fw k n → okM n = true
  | 0, n, h => p92z
  | k + 1, n, h => by
    unfold Fw at h
    obtain ⟨h0, h1, h2, h3, h4⟩ := h
    obtain ⟨a, b, q, d⟩ := n
    simp only at h0 h1 h2 h3 h4
    rw [okM, decide_eq_true (show b.size ≤ 1073741824 by omega), decide_eq_true (show q.length ≤ 1099511627776 by omega), decide_eq_true (show d.length ≤ 1099511627776 by omega), okML_of d (fun x hx => okM_of k x (h4 x hx)),
      List.all_eq_true.2 (fun y hy => decide_eq_true (show y.size ≤ 1073741824 by have := h2 y hy; omega))]
    rfl
theorem countJ_l {k : Nat} (hk : ∀ n : S28, Fw k n → ∀ K, 20 * k ≤ K → aI.f K n.f0 n.f1 n.f2 n.f3 = some (cntT n : Int)) (d : List S28) (hd : ∀ x ∈ d, Fw k x) (hl : d.length ≤ 8) :
    ∀ (m i acc : Nat), i + m = d.length → acc + cntTL (d.drop i) ≤ 1000000000 → ∀ K, 20 * k + m + 1 ≤ K → aI.l0 K (acc : Int) d (d.length : Int) (i : Int) = some ((acc + cntTL (d.drop i) : Nat) : Int)
  | m, i, acc, hm, hb, 0, hK => by omega
  | 0, i, acc, hm, hb, K + 1, hK => by
    rw [aI.l0, if_neg (by omega), List.drop_of_length_le (by omega)]
    simp [cntTL]
  | m + 1, i, acc, hm, hb, K + 1, hK => by
    have hi : i < d.length := by omega
    have hd2 := rd28_drop hi
    rw [hd2, cntTL] at hb
    have hw : wrap64 ((acc : Int) + (cntT (rd_T28 d (i : Int)) : Int)) = ((acc + cntT (rd_T28 d (i : Int)) : Nat) : Int) := p76z
    rw [aI.l0, if_pos (by omega), if_pos (by omega), if_pos (by omega), hk _ (hd _ (rd28_mem hi)) K (by omega), Option.bind_some, wrap_nat (by omega), hw,
      countJ_l hk d hd hl m (i + 1) _ (by omega) (by omega) K (by omega), hd2, cntTL, Nat.add_assoc]
theorem countJ_at : ∀ (k : Nat), k ≤ 8 → ∀ (n : S28), Fw k n → ∀ K, 20 * k ≤ K → aI.f K n.f0 n.f1 n.f2 n.f3 = some (cntT n : Int)
  | 0, _, n, h, K, hK => p92z
  | k + 1, hk8, n, h, 0, hK => by omega
  | k + 1, hk8, n, h, K + 1, hK => by
    have hc := cntT_le _ n h
    have h98 : 9 ^ (k + 1) ≤ 9 ^ 8 := Nat.pow_le_pow_right (by decide) hk8
    rw [cntT_at] at hc
    unfold Fw at h
    obtain ⟨h0, h1, h2, h3, h4⟩ := h
    rw [aI.f]
    have e98 : (9 : Nat) ^ 8 = 43046721 := by decide
    have := countJ_l (countJ_at k (by omega)) n.f3 h4 h3 n.f3.length 0 1 (by omega) (by rw [List.drop_zero]; omega) K (by omega)
    rw [List.drop_zero, Nat.add_comm 1, ← cntT_at] at this
    exact this
theorem mayJ {n : S28} (h : okM n = true) (K : Nat) : jtree_may.f K n.f0 n.f1 n.f2 n.f3 1 = some (mayF n 1) := by
  obtain ⟨a, b, c, d⟩ := n
  unfold jtree_may.f
  exact if_pos ⟨h, by decide, by decide⟩
theorem wriJ {n : S28} (hm : mayF n 1 = true) (h : okM n = true) (hs : (wriF n).size ≤ 1099511627776) (K : Nat) : bJ.f K n.f0 n.f1 n.f2 n.f3 = some (wriF n) := by
  obtain ⟨a, b, c, d⟩ := n
  unfold bJ.f
  exact if_pos ⟨hm, h, hs⟩
def chkV (n : S28) : Int := if (cntT n : Int) > 4000 then 2 else if mayF n 1 = true then 0 else 2
theorem check_at {n : S28} (h : Fw 8 n) {K : Nat} (hK : 4000 ≤ K) : bY.f K n.f0 n.f1 n.f2 n.f3 = some (chkV n) ∧ b7.f K (toR n).f0 (toR n).f1 (toR n).f2 (toR n).f3 = some (chkV n) := by
 have h1 := countJ_at 8 (by omega) n h K (by omega)
 have h2 := countR_at 8 (by omega) n h K (by omega)
 have h3 := mayR_at 8 (by omega) n 1 h (by omega) (by omega) K (by omega)
 have h4 : jtree_may.f K n.f0 n.f1 n.f2 n.f3 1 = some (mayF n 1) := mayJ (okM_of 8 n h) K
 constructor
 ·unfold bY.f chkV
  rw [h1, Option.bind_some]
  split
  ·rfl
  ·rw [h4, Option.bind_some]
   split <;> rfl
 ·unfold b7.f chkV
  rw [h2, Option.bind_some]
  split
  ·rfl
  ·rw [h3, Option.bind_some]
   split <;> rfl
theorem text_at {n : S28} (h : Fw 8 n) {K : Nat} (hK : 4000 ≤ K) : ∃ r : ByteArray × Int, cy.f K n.f0 n.f1 n.f2 n.f3 = some r ∧ bR.f K (toR n).f0 (toR n).f1 (toR n).f2 (toR n).f3 = some r := by
 obtain ⟨h1, h2⟩ := check_at h hK
 unfold cy.f bR.f
 rw [h1, h2, Option.bind_some, Option.bind_some]
 by_cases c : chkV n = 0
 case neg =>
  rw [if_neg c, if_neg c]
  exact ⟨_, rfl, rfl⟩
 have hm : mayF n 1 = true := by
  unfold chkV at c
  split at c
  ·cases c
  ·split at c
   ·assumption
   ·cases c
 have hs := wri_size 8 n h
 have e98 : (9 : Nat) ^ 8 = 43046721 := by decide
 have h4 : bJ.f K n.f0 n.f1 n.f2 n.f3 = some (wriF n) := wriJ hm (okM_of 8 n h) (by omega) K
 rw [if_pos c, if_pos c, h4, wriR_at 8 (by omega) n 1 h hm K (by omega)]
 exact ⟨_, rfl, rfl⟩
end Go.Proofs.YtodnggilomanbaaGreatDoor.Pure
end
section
namespace Go.Proofs.YtodnggilomanbaaGreatDoor.Pure
open Go.RowKit Go.Lib Go.Proofs.YtodnggilomanbaaGreatDoor.PAll Go.Proofs.YtodnggilomanbaaGreatDoorW.PrintWords Go.Proofs.YtodnggilomanbaaGreatDoorW.PrintLast Go.Proofs.YtodnggilomanbaaGreatDoorW.PrintMore
set_option linter.unusedVariables false
set_option linter.unusedSimpArgs false

theorem mn_bd (a c : Nat) : 0 ≤ mn (a : Int) (c : Int) ∧ mn (a : Int) (c : Int) ≤ (a : Int) ∧ mn (a : Int) (c : Int) ≤ (c : Int) := by
  unfold mn
  split <;> omega
theorem cut_size (s : ByteArray) (c : Nat) : (s.extract 0 ((mn (s.size : Int) (c : Int)) : Int).toNat).size ≤ c := by
  have := mn_bd s.size c
  rw [ByteArray.size_extract]
  omega
section
variable (e k : Int) (s : ByteArray) (ks : List ByteArray) (L : List S28) (k' : Int) (s' : ByteArray)
theorem few_l1 (q C : Nat) (he : 0 ≤ e ∧ e ≤ 5) (hk : e < 5 → ∀ x : S28, ∃ y : S28, (∀ K, C ≤ K → ac.f K x.f0 x.f1 x.f2 x.f3 (e + 1) = some (y.f0, y.f1, y.f2, y.f3)) ∧ Fw q y) (ks' : List ByteArray) :
 ∀ (m i : Nat) (acc : List S28), i + m = 8 → acc.length ≤ i → (∀ x ∈ acc, Fw q x) → ∃ L' : List S28, (∀ K, C + m + 1 ≤ K → ac.l1 K e (i : Int) k s ks L k' s' ks' acc = some (k', s', ks', L')) ∧ L'.length ≤ 8 ∧ ∀ x ∈ L', Fw q x
 | 0, i, acc, hm, ha, hx => by
  refine ⟨acc, fun K hK => ?_, by omega, hx⟩
  obtain ⟨K, rfl⟩ : ∃ q, K = q + 1 := ⟨K - 1, by omega⟩
  rw [ac.l1]
  by_cases c : (i : Int) < (L.length : Int)
  case neg =>
   rw [if_neg c]
  rw [if_pos c, if_neg (by omega)]
 | m + 1, i, acc, hm, ha, hx => by
  by_cases c : (i : Int) < (L.length : Int)
  case neg =>
   refine ⟨acc, fun K hK => ?_, by omega, hx⟩
   obtain ⟨K, rfl⟩ : ∃ q, K = q + 1 := ⟨K - 1, by omega⟩
   rw [ac.l1, if_neg c]
  by_cases c5 : e < 5
  case neg =>
   refine ⟨acc, fun K hK => ?_, by omega, hx⟩
   obtain ⟨K, rfl⟩ : ∃ q, K = q + 1 := ⟨K - 1, by omega⟩
   rw [ac.l1, if_pos c, if_pos (by omega), if_neg c5]
  obtain ⟨y, hy, hF⟩ := hk c5 (rd_T28 L (i : Int))
  obtain ⟨L', h1, h2, h3⟩ := few_l1 q C he hk ks' m (i + 1) (acc ++ [y]) (by omega) (by rw [List.length_append, List.length_singleton]; omega) (fun x hx' => by
   rcases List.mem_append.1 hx' with h | h
   ·exact hx x h
   ·rw [List.mem_singleton] at h
    rw [h]
    exact hF)
  refine ⟨L', fun K hK => ?_, h2, h3⟩
  obtain ⟨K, rfl⟩ : ∃ q, K = q + 1 := ⟨K - 1, by omega⟩
  have hw : wrap64 (e + 1) = e + 1 := p76z
  have hy' : (⟨y.f0, y.f1, y.f2, y.f3⟩ : S28) = y := by cases y; rfl
  rw [ac.l1, if_pos c, if_pos (by omega), if_pos c5, if_pos (by omega), hw, hy K (by omega), Option.bind_some, if_pos (by omega), wrap_nat (by omega)]
  simp only
  rw [hy']
  exact h1 K (by omega)
theorem few_l0 (q C : Nat) (hj : ∀ ks' : List ByteArray, ∃ L' : List S28, (∀ K, C ≤ K → ac.j1 K e k s ks L k' s' ks' = some (k', s', ks', L')) ∧ L'.length ≤ 8 ∧ ∀ x ∈ L', Fw q x) :
 ∀ (m i : Nat) (ks' : List ByteArray), i + m = 8 → ks'.length ≤ i → (∀ y ∈ ks', y.size ≤ 20) → ∃ (ks2 : List ByteArray) (L' : List S28), (∀ K, C + m + 1 ≤ K → ac.l0 K e (i : Int) k s ks L k' s' ks' = some (k', s', ks2, L')) ∧ ks2.length ≤ 8 ∧ (∀ y ∈ ks2, y.size ≤ 20) ∧ L'.length ≤ 8 ∧ ∀ x ∈ L', Fw q x
 | 0, i, ks', hm, ha, hx => by
  obtain ⟨L', h1, h2, h3⟩ := hj ks'
  refine ⟨ks', L', fun K hK => ?_, by omega, hx, h2, h3⟩
  obtain ⟨K, rfl⟩ : ∃ q, K = q + 1 := ⟨K - 1, by omega⟩
  rw [ac.l0]
  by_cases c : (i : Int) < (ks.length : Int)
  case neg =>
   rw [if_neg c]
   exact h1 K (by omega)
  rw [if_pos c, if_neg (by omega)]
  exact h1 K (by omega)
 | m + 1, i, ks', hm, ha, hx => by
  by_cases c : (i : Int) < (ks.length : Int)
  case neg =>
   obtain ⟨L', h1, h2, h3⟩ := hj ks'
   refine ⟨ks', L', fun K hK => ?_, by omega, hx, h2, h3⟩
   obtain ⟨K, rfl⟩ : ∃ q, K = q + 1 := ⟨K - 1, by omega⟩
   rw [ac.l0, if_neg c]
   exact h1 K (by omega)
  obtain ⟨z, hz⟩ : ∃ z, rdOf ByteArray.empty ks (i : Int) = z := ⟨_, rfl⟩
  have hb := mn_bd z.size 20
  have hsz := cut_size z 20
  have e20 : ((20 : Nat) : Int) = 20 := rfl
  rw [e20] at hb hsz
  obtain ⟨ks2, L', h1, h2, h3, h4, h5⟩ := few_l0 q C hj m (i + 1) (ks' ++ [z.extract 0 ((mn (z.size : Int) 20) : Int).toNat]) (by omega) (by rw [List.length_append, List.length_singleton]; omega) (fun y hy => by
   rcases List.mem_append.1 hy with h | h
   ·exact hx y h
   ·rw [List.mem_singleton] at h
    rw [h]
    exact hsz)
  refine ⟨ks2, L', fun K hK => ?_, h2, h3, h4, h5⟩
  obtain ⟨K, rfl⟩ : ∃ q, K = q + 1 := ⟨K - 1, by omega⟩
  rw [ac.l0, if_pos c, if_pos (by omega), if_pos (by omega), hz, if_pos hb.1, if_pos hb.2.1, if_pos (by omega), wrap_nat (by omega)]
  exact h1 K (by omega)
end
theorem few_at : ∀ (t : Nat), t ≤ 5 → ∀ n : S28, ∃ y : S28, (∀ K, 40 * (t + 1) ≤ K → ac.f K n.f0 n.f1 n.f2 n.f3 (5 - (t : Int)) = some (y.f0, y.f1, y.f2, y.f3)) ∧ Fw (t + 1) y := by
  intro t
  induction t with
  | zero =>
    intro _ n
    have hb := mn_bd n.f1.size 60
    have hsz := cut_size n.f1 60
    have e60 : ((60 : Nat) : Int) = 60 := rfl
    rw [e60] at hb hsz
    obtain ⟨ks2, L', h1, h2, h3, h4, h5⟩ := few_l0 5 n.f0 n.f1 n.f2 n.f3 n.f0 (n.f1.extract 0 ((mn (n.f1.size : Int) 60) : Int).toNat) 0 10 (fun ks' => by
      obtain ⟨L', a, b, c⟩ := few_l1 5 n.f0 n.f1 n.f2 n.f3 n.f0 (n.f1.extract 0 ((mn (n.f1.size : Int) 60) : Int).toNat) 0 0 (by omega) (fun h => by omega) ks' 8 0 [] rfl (by simp) (fun x hx => by cases hx)
      refine ⟨L', fun K hK => ?_, b, c⟩
      obtain ⟨K, rfl⟩ : ∃ q, K = q + 1 := ⟨K - 1, by omega⟩
      rw [ac.j1]
      exact a K (by omega)) 8 0 [] rfl (by simp) (fun y hy => by cases hy)
    refine ⟨⟨n.f0, _, ks2, L'⟩, fun K hK => ?_, hsz, h2, h3, h4, h5⟩
    obtain ⟨K, rfl⟩ : ∃ q, K = q + 1 := ⟨K - 1, by omega⟩
    rw [ac.f, if_pos hb.1, if_pos hb.2.1]
    exact h1 K (by omega)
  | succ t ih =>
    intro ht n
    have hb := mn_bd n.f1.size 60
    have hsz := cut_size n.f1 60
    have e60 : ((60 : Nat) : Int) = 60 := rfl
    rw [e60] at hb hsz
    obtain ⟨e, he⟩ : ∃ e : Int, (5 : Int) - ((t + 1 : Nat) : Int) = e := ⟨_, rfl⟩
    have he1 : e + 1 = 5 - (t : Int) := by omega
    obtain ⟨ks2, L', h1, h2, h3, h4, h5⟩ := few_l0 e n.f0 n.f1 n.f2 n.f3 n.f0 (n.f1.extract 0 ((mn (n.f1.size : Int) 60) : Int).toNat) (t + 1) (40 * (t + 1) + 10) (fun ks' => by
      obtain ⟨L', a, b, c⟩ := few_l1 e n.f0 n.f1 n.f2 n.f3 n.f0 (n.f1.extract 0 ((mn (n.f1.size : Int) 60) : Int).toNat) (t + 1) (40 * (t + 1)) (by omega) (fun _ x => by rw [he1]; exact ih (by omega) x) ks' 8 0 [] rfl (by simp) (fun x hx => by cases hx)
      refine ⟨L', fun K hK => ?_, b, c⟩
      obtain ⟨K, rfl⟩ : ∃ q, K = q + 1 := ⟨K - 1, by omega⟩
      rw [ac.j1]
      exact a K (by omega)) 8 0 [] rfl (by simp) (fun y hy => by cases hy)
    refine ⟨⟨n.f0, _, ks2, L'⟩, fun K hK => ?_, hsz, h2, h3, h4, h5⟩
    obtain ⟨K, rfl⟩ : ∃ q, K = q + 1 := ⟨K - 1, by omega⟩
    rw [he, ac.f, if_pos hb.1, if_pos hb.2.1]
    exact h1 K (by omega)
end Go.Proofs.YtodnggilomanbaaGreatDoor.Pure
end
section
namespace Go.Proofs.YtodnggilomanbaaGreatDoor.Pure
open Go.RowKit Go.Lib Go.Proofs.YtodnggilomanbaaGreatDoor.PAll Go.Proofs.YtodnggilomanbaaGreatDoorW.PrintWords Go.Proofs.YtodnggilomanbaaGreatDoorW.PrintLast Go.Proofs.YtodnggilomanbaaGreatDoorW.PrintMore
set_option linter.unusedVariables false
set_option linter.unusedSimpArgs false

/-- The part behind the first key that is the one. -/
def getL (key : ByteArray) : List ByteArray → List S28 → Option S28
  | q :: ks, x :: L => if q = key then some x else getL key ks L
  | _, _ => none
def getT (n : S28) (key : ByteArray) : Option S28 := if n.f0 = 7 then getL key n.f2 n.f3 else none
def getV : Option S28 → Int × ByteArray × List ByteArray × List S37 × Bool
  | some x => ((toR x).f0, (toR x).f1, (toR x).f2, (toR x).f3, true)
  | none => (0, ⟨#[]⟩, [], [], false)
theorem getR_l (key : ByteArray) (k : Int) (s : ByteArray) (ks : List ByteArray) (L : List S28) (q : Nat) (hL : ∀ x ∈ L, Fw q x) (hks : ks.length ≤ 8) (h7 : k = 7) :
 ∀ (m i : Nat), i + m = ks.length → ∀ K, 20 * q + 2 * m + 3 ≤ K → am.l0 K key (i : Int) k s ks (toRL L) = some (getV (getL key (ks.drop i) (L.drop i)))
 | m, i, hm, 0, hK => by omega
 | m, i, hm, 1, hK => by omega
 | 0, i, hm, K + 2, hK => by
  rw [am.l0, if_neg (by omega), am.j1, if_neg (by decide), List.drop_of_length_le (l := ks) (by omega)]
  rfl
 | m + 1, i, hm, K + 2, hK => by
  have hi : i < ks.length := by omega
  rw [am.l0, if_pos (by omega), rdT_drop hi]
  by_cases hl : i < L.length
  case neg =>
   rw [if_neg p94z, am.j1, if_neg (by decide), List.drop_of_length_le (l := L) (by omega)]
   rfl
  rw [if_pos p94z, am.j1, if_pos (by rw [h7]; rfl), if_pos (by omega), if_pos (by omega), rd28_drop hl, getL]
  by_cases hc : rdOf ByteArray.empty ks (i : Int) = key
  case pos =>
   rw [if_pos (by rw [hc]), if_pos p94z, rd37_at L i hl, copyR_at q _ (hL _ (rd28_mem hl)) K (by omega), Option.bind_some, if_pos hc]
   rfl
  rw [if_neg (fun h => hc (toList_inj.1 h)), if_neg hc, wrap_nat (by omega)]
  exact getR_l key k s ks L q hL hks h7 m (i + 1) (by omega) K (by omega)
theorem getR_at {q : Nat} {n : S28} (h : Fw (q + 1) n) (key : ByteArray) {K : Nat} (hK : 20 * q + 30 ≤ K) : am.f K (toR n).f0 (toR n).f1 (toR n).f2 (toR n).f3 key = some (getV (getT n key)) := by
 unfold Fw at h
 obtain ⟨h0, h1, h2, h3, h4⟩ := h
 unfold am.f getT
 rw [toR_at]
 simp only
 by_cases c7 : n.f0 = 7
 case pos =>
  have := getR_l key n.f0 n.f1 n.f2 n.f3 q h4 h1 c7 n.f2.length 0 (by omega) K (by omega)
  rw [List.drop_zero, List.drop_zero] at this
  rw [if_pos c7]
  exact this
 obtain ⟨K, rfl⟩ : ∃ p, K = p + 2 := ⟨K - 2, by omega⟩
 have hb : (n.f0 == 7) = false := beq_eq_false_iff_ne.2 c7
 have hj : am.j1 (K + 1) key 0 false n.f0 n.f1 n.f2 (toRL n.f3) = some (getV none) := by
  rw [am.j1, if_neg (by decide)]
  rfl
 rw [if_neg c7, am.l0, hb, hj]
 split
 ·split <;> rfl
 ·rfl
theorem getL_mem {key : ByteArray} : ∀ {ks : List ByteArray} {L : List S28} {x : S28}, getL key ks L = some x → x ∈ L
 | q :: ks, y :: L, x, h => by
  rw [getL] at h
  split at h
  ·cases h
   simp
  ·exact List.mem_cons_of_mem _ (getL_mem h)
 | [], L, x, h => by rw [getL] at h; cases h; simp
 | q :: ks, [], x, h => by rw [getL] at h; cases h; simp
end Go.Proofs.YtodnggilomanbaaGreatDoor.Pure
end
section
namespace Go.Proofs.YtodnggilomanbaaGreatDoor.Pure
open Go.RowKit Go.Lib Go.Proofs.YtodnggilomanbaaGreatDoor.PAll Go.Proofs.YtodnggilomanbaaGreatDoorW.PrintWords Go.Proofs.YtodnggilomanbaaGreatDoorW.PrintLast Go.Proofs.YtodnggilomanbaaGreatDoorW.PrintMore Go.Proofs.YtodnggilomanbaaGreatDoor.Hand
set_option linter.unusedVariables false
set_option linter.unusedSimpArgs false

abbrev nodeR (x : S37) (A2 : Option Addr) (c2 : Nat) (A3 : Option Addr) (c3 : Nat) : Value := .agg #[.int .i64 x.f0, .string x.f1, .slice A2 x.f2.length c2, .slice A3 x.f3.length c3]
/-- What a node's slices show. -/
def CN (w : World) (n : S28) (A2 : Option Addr) (c2 : Nat) (A3 : Option Addr) (c3 : Nat) : Prop := (n.f2.length ≤ c2 ∧ Kd.C Kd.string w A2 n.f2.length n.f2) ∧ (n.f3.length ≤ c3 ∧ Kd.C k28 w A3 n.f3.length n.f3)
def CR (w : World) (n : S37) (A2 : Option Addr) (c2 : Nat) (A3 : Option Addr) (c3 : Nat) : Prop := (n.f2.length ≤ c2 ∧ Kd.C Kd.string w A2 n.f2.length n.f2) ∧ (n.f3.length ≤ c3 ∧ Kd.C k37 w A3 n.f3.length n.f3)
section
variable {w w1 : World} {n m : S28} {x y : S37} {A2 A3 B2 B3 : Option Addr} {c2 c3 d2 d3 : Nat}
theorem CN.below (h : CN w n A2 c2 A3 c3) (hb : Below w.heap.size w w1) : CN w1 n A2 c2 A3 c3 := ⟨⟨h.1.1, Kd.C_below h.1.2 hb⟩, ⟨h.2.1, Kd.C_below h.2.2 hb⟩⟩
theorem CR.below (h : CR w x A2 c2 A3 c3) (hb : Below w.heap.size w w1) : CR w1 x A2 c2 A3 c3 := ⟨⟨h.1.1, Kd.C_below h.1.2 hb⟩, ⟨h.2.1, Kd.C_below h.2.2 hb⟩⟩
/-- A node of the call's own is one that can be read. -/
theorem CN_of_R {base : Nat} {ok ok' : Nat → Prop} {v2 v3 : Value} (h2 : Kd.R Kd.string 9 w base ok v2 n.f2) (h3 : Kd.R k28 28 w base ok' v3 n.f3) : ∃ B2 d2 B3 d3, v2 = .slice B2 n.f2.length d2 ∧ v3 = .slice B3 n.f3.length d3 ∧ CN w n B2 d2 B3 d3 := by
  obtain ⟨B2, d2, e2, l2, C2⟩ := Kd.R_reads h2
  obtain ⟨B3, d3, e3, l3, C3⟩ := Kd.R_reads h3
  exact ⟨B2, d2, B3, d3, e2, e3, ⟨l2, C2⟩, ⟨l3, C3⟩⟩
theorem CR_of_R {base : Nat} {ok ok' : Nat → Prop} {v2 v3 : Value} (h2 : Kd.R Kd.string 9 w base ok v2 x.f2) (h3 : Kd.R k37 37 w base ok' v3 x.f3) : ∃ B2 d2 B3 d3, v2 = .slice B2 x.f2.length d2 ∧ v3 = .slice B3 x.f3.length d3 ∧ CR w x B2 d2 B3 d3 := by
  obtain ⟨B2, d2, e2, l2, C2⟩ := Kd.R_reads h2
  obtain ⟨B3, d3, e3, l3, C3⟩ := Kd.R_reads h3
  exact ⟨B2, d2, B3, d3, e2, e3, ⟨l2, C2⟩, ⟨l3, C3⟩⟩
theorem few_c (n : S28) : ∃ y, Fw 6 y ∧ ∀ {w : World} {A2 : Option Addr} {c2 : Nat} {A3 : Option Addr} {c3 : Nat}, CN w n A2 c2 A3 c3 → Calls Tryz.prog 10 #[nodeV n A2 c2 A3 c3, .int .i64 0] w fun e w' => ∃ B2 d2 B3 d3, e = .returned (nodeV y B2 d2 B3 d3) ∧ (Kd.R Kd.string 9 w' w.heap.size (fun _ => True) (.slice B2 y.f2.length d2) y.f2 ∧ Kd.R k28 28 w' w.heap.size (fun _ => True) (.slice B3 y.f3.length d3) y.f3) ∧ Below w.heap.size w w' := by
  obtain ⟨y, hy, hF⟩ := few_at 5 (Nat.le_refl _) n
  refine ⟨y, hF, fun h => (ac.calls 4000 _ _ _ _ n.f2 _ _ n.f3 0 _ _ _ _ _ h.1.2 h.1.1 h.2.2 h.2.1 (hy 4000 (by omega))).mono ?_⟩
  rintro e w' ⟨v2, v3, rfl, h2, h3, hb⟩
  obtain ⟨B2, d2, B3, d3, rfl, rfl, hC⟩ := CN_of_R h2 h3
  exact ⟨B2, d2, B3, d3, rfl, ⟨h2, Kd.R_mono h3 (fun _ _ => trivial)⟩, hb⟩
theorem own_c (hF : Fw 8 n) (h : CN w n A2 c2 A3 c3) : Calls Tryz.prog 12 #[nodeV n A2 c2 A3 c3] w fun e w' => ∃ B2 d2 B3 d3, e = .returned (nodeR (toR n) B2 d2 B3 d3) ∧ CR w' (toR n) B2 d2 B3 d3 ∧ Below w.heap.size w w' := by
  refine (al.calls 4000 _ _ (fun k => k < w.heap.size) _ _ n.f2 (fun k => k < w.heap.size) _ _ n.f3 _ _ _ _ _ (Kd.V_mk h.1.1 (Kd.C_F Kd.heap_string h.1.2)) (Kd.V_mk h.2.1 (Kd.C_F k28_heap h.2.2)) (own_at 8 n hF 4000 (by omega))).mono ?_
  rintro e w' ⟨v2, v3, rfl, h2, h3, hb⟩
  obtain ⟨B2, d2, rfl⟩ := Kd.V_slice h2
  obtain ⟨B3, d3, rfl, l3, C3⟩ := Kd.N_reads h3
  obtain ⟨_, l2, C2⟩ := Kd.V_reads' h2
  exact ⟨B2, d2, B3, d3, rfl, ⟨⟨l2, C2⟩, ⟨l3, C3⟩⟩, hb⟩
theorem copyR_c (hF : Fw 8 n) (h : CR w (toR n) A2 c2 A3 c3) : Calls Tryz.prog 11 #[nodeR (toR n) A2 c2 A3 c3] w fun e w' => ∃ B2 d2 B3 d3, e = .returned (nodeR (toR n) B2 d2 B3 d3) ∧ CR w' (toR n) B2 d2 B3 d3 ∧ Below w.heap.size w w' := by
  refine (ag.calls 4000 _ _ _ _ (toR n).f2 _ _ (toR n).f3 _ _ _ _ _ h.1.2 h.1.1 h.2.2 h.2.1 (copyR_at 8 n hF 4000 (by omega))).mono ?_
  rintro e w' ⟨v2, v3, rfl, h2, h3, hb⟩
  obtain ⟨B2, d2, B3, d3, rfl, rfl, hC⟩ := CR_of_R h2 h3
  exact ⟨B2, d2, B3, d3, rfl, hC, hb⟩
theorem text_c (hF : Fw 8 n) : ∃ (t : ByteArray) (f : Int), (∀ {w : World} {A2 : Option Addr} {c2 : Nat} {A3 : Option Addr} {c3 : Nat}, CN w n A2 c2 A3 c3 → Tabs w → Calls Tryz.prog 13 #[nodeV n A2 c2 A3 c3] w fun e w' => e = .returned (.tuple #[.string t, .int .i64 f]) ∧ Below w.heap.size w w') ∧
    ∀ {w : World} {A2 : Option Addr} {c2 : Nat} {A3 : Option Addr} {c3 : Nat}, CR w (toR n) A2 c2 A3 c3 → Calls Tryz.prog 14 #[nodeR (toR n) A2 c2 A3 c3] w fun e w' => e = .returned (.tuple #[.string t, .int .i64 f]) ∧ Below w.heap.size w w' := by
  obtain ⟨⟨t, f⟩, h1, h2⟩ := text_at hF (Nat.le_refl 4000)
  exact ⟨t, f, fun h ht => cy.calls 4000 _ _ _ _ n.f2 _ _ n.f3 _ _ _ h.1.2 h.1.1 h.2.2 h.2.1 h1 ht, fun h => bR.calls 4000 _ _ _ _ (toR n).f2 _ _ (toR n).f3 _ _ _ h.1.2 h.1.1 h.2.2 h.2.1 h2⟩
theorem check_c (hF : Fw 8 n) (h : CN w n A2 c2 A3 c3) (ht : Tabs w) : Calls Tryz.prog 18 #[nodeV n A2 c2 A3 c3] w fun e w' => e = .returned (.int .i64 (chkV n)) ∧ Below w.heap.size w w' :=
  bY.calls 4000 _ _ _ _ n.f2 _ _ n.f3 _ _ h.1.2 h.1.1 h.2.2 h.2.1 (check_at hF (Nat.le_refl _)).1 ht
theorem checkR_c (hF : Fw 8 n) (h : CR w (toR n) A2 c2 A3 c3) : Calls Tryz.prog 19 #[nodeR (toR n) A2 c2 A3 c3] w fun e w' => e = .returned (.int .i64 (chkV n)) ∧ Below w.heap.size w w' :=
  b7.calls 4000 _ _ _ _ (toR n).f2 _ _ (toR n).f3 _ _ h.1.2 h.1.1 h.2.2 h.2.1 (check_at hF (Nat.le_refl _)).2
theorem count_c (hF : Fw 8 n) (h : CN w n A2 c2 A3 c3) : Calls Tryz.prog 22 #[nodeV n A2 c2 A3 c3] w fun e w' => e = .returned (.int .i64 (cntT n)) ∧ Below w.heap.size w w' :=
  aI.calls 4000 _ _ _ _ n.f2 _ _ n.f3 _ _ h.1.2 h.1.1 h.2.2 h.2.1 (countJ_at 8 (by omega) n hF 4000 (by omega))
theorem countR_c (hF : Fw 8 n) (h : CR w (toR n) A2 c2 A3 c3) : Calls Tryz.prog 23 #[nodeR (toR n) A2 c2 A3 c3] w fun e w' => e = .returned (.int .i64 (cntT n)) ∧ Below w.heap.size w w' :=
  ao.calls 4000 _ _ _ _ (toR n).f2 _ _ (toR n).f3 _ _ h.1.2 h.1.1 h.2.2 h.2.1 (countR_at 8 (by omega) n hF 4000 (by omega))
theorem okL_of : ∀ l : List S28, (∀ x ∈ l, okN x = true) → okL l = true
  | [], _ => by rw [okL]
  | x :: l, h => by rw [okL, h x (by simp), okL_of l (fun y hy => h y (by simp [hy]))]; rfl
theorem okN_of : ∀ (k : Nat) (n : S28), Fw k n → okN n = true
  | 0, n, h => p92z
  | k + 1, n, h => by
    unfold Fw at h
    obtain ⟨h0, h1, h2, h3, h4⟩ := h
    obtain ⟨a, b, q, d⟩ := n
    simp only at h0 h1 h2 h3 h4
    rw [okN, decide_eq_true (show q.length ≤ 1099511627776 by omega), decide_eq_true (show d.length ≤ 1099511627776 by omega), okL_of d (fun x hx => okN_of k x (h4 x hx))]
    rfl
theorem dZ (x : S28) : sameF x x = true := by
  have h : ∀ l : List S28, (∀ y ∈ l, sameF y y = true) → sameL l l = true := fun l => by
    induction l with
    | nil => intro _; rw [sameL]
    | cons y l ih =>
      intro h
      rw [sameL, h y (by simp), ih (fun z hz => h z (by simp [hz]))]
      rfl
  have h2 := h x.f3 (fun y hy => dZ y)
  rw [sameF_eq, h2]
  simp
termination_by SizeOf.sizeOf x
decreasing_by
  have := List.sizeOf_lt_of_mem hy
  have : SizeOf.sizeOf x.f3 < SizeOf.sizeOf x := by cases x; simp only [S28.mk.sizeOf_spec]; omega
  omega
theorem same_c (hF : Fw 8 n) (h : CN w n A2 c2 A3 c3) (h' : CN w m B2 d2 B3 d3) : Calls Tryz.prog 21 #[nodeV n A2 c2 A3 c3, nodeV m B2 d2 B3 d3] w fun e w' => e = .returned (.bool (sameF n m)) ∧ Below w.heap.size w w' :=
  same_all n (okN_of 8 n hF) m A2 c2 A3 c3 B2 d2 B3 d3 w h.1.2 h.1.1 h.2.2 h.2.1 h'.1.2 h'.1.1 h'.2.2 h'.2.1
theorem sameR_c (hF : Fw 8 n) (hG : Fw 8 m) (h : CR w (toR n) A2 c2 A3 c3) (h' : CR w (toR m) B2 d2 B3 d3) : Calls Tryz.prog 20 #[nodeR (toR n) A2 c2 A3 c3, nodeR (toR m) B2 d2 B3 d3] w fun e w' => e = .returned (.bool (sameF n m)) ∧ Below w.heap.size w w' :=
  ae.calls 4000 _ _ _ _ (toR n).f2 _ _ (toR n).f3 _ _ _ _ (toR m).f2 _ _ (toR m).f3 _ _ h.1.2 h.1.1 h.2.2 h.2.1 h'.1.2 h'.1.1 h'.2.2 h'.2.1 (rsame_at 8 n m hF hG 4000 (by omega))
theorem same_self (hF : Fw 8 n) (h : CN w n A2 c2 A3 c3) (h' : CN w n B2 d2 B3 d3) : Calls Tryz.prog 21 #[nodeV n A2 c2 A3 c3, nodeV n B2 d2 B3 d3] w fun e w' => e = .returned (.bool true) ∧ Below w.heap.size w w' := dZ n ▸ same_c hF h h'
theorem fj (hF : Fw 8 n) (h : CR w (toR n) A2 c2 A3 c3) (h' : CR w (toR n) B2 d2 B3 d3) : Calls Tryz.prog 20 #[nodeR (toR n) A2 c2 A3 c3, nodeR (toR n) B2 d2 B3 d3] w fun e w' => e = .returned (.bool true) ∧ Below w.heap.size w w' := dZ n ▸ sameR_c hF hF h h'
theorem copy_c (hF : Fw 8 n) (h : CN w n A2 c2 A3 c3) : Calls Tryz.prog 17 #[nodeV n A2 c2 A3 c3] w fun e w' => ∃ B2 d2 B3 d3, e = .returned (nodeV n B2 d2 B3 d3) ∧ CN w' n B2 d2 B3 d3 ∧ Kd.R Kd.string 9 w' w.heap.size (fun _ => True) (.slice B2 n.f2.length d2) n.f2 ∧ Kd.R k28 28 w' w.heap.size (fun _ => True) (.slice B3 n.f3.length d3) n.f3 ∧ Below w.heap.size w w' := by
  refine (copy_all n (okN_of 8 n hF) A2 c2 A3 c3 w h.1.2 h.1.1 h.2.2 h.2.1).mono ?_
  rintro e w' ⟨v2, v3, rfl, h2, h3, hb⟩
  obtain ⟨B2, d2, B3, d3, rfl, rfl, hC⟩ := CN_of_R h2 h3
  exact ⟨B2, d2, B3, d3, rfl, hC, h2, Kd.R_mono h3 (fun _ _ => trivial), hb⟩
theorem Fw_succ : ∀ (k : Nat) (n : S28), Fw k n → Fw (k + 1) n
  | 0, n, h => p92z
  | k + 1, n, h => by
    unfold Fw at h ⊢
    exact ⟨h.1, h.2.1, h.2.2.1, h.2.2.2.1, fun x hx => Fw_succ k x (h.2.2.2.2 x hx)⟩
theorem Fw_z : Fw 8 z28 := by
  unfold Fw
  exact ⟨by decide, by decide, (fun q hq => by cases hq), by decide, (fun x hx => by cases hx)⟩
theorem getL_idx (key : ByteArray) : ∀ (ks : List ByteArray) (L : List S28) (i : Int), 0 ≤ i → getL key ks L = if idxS ks key i = -1 then none else L[(idxS ks key i - i).toNat]?
 | [], L, i, h => by
  rw [idxS, if_pos rfl]
  cases L <;> rw [getL] <;> simp
 | q :: ks, [], i, h => by
  rw [getL]
  ·split <;> simp
  ·simp
 | q :: ks, x :: L, i, h => by
  rw [getL, idxS]
  by_cases c : q = key
  case pos =>
   rw [if_pos c, if_pos c, if_neg (by omega), show (i - i).toNat = 0 by omega]
   rfl
  rw [if_neg c, if_neg c, getL_idx key ks L (i + 1) (by omega)]
  rcases idxS_rng ks key (i + 1) (by omega) with e | ⟨e1, e2⟩
  ·rw [e, if_pos rfl, if_pos rfl]
  ·rw [if_neg (by omega), if_neg (by omega), show (idxS ks key (i + 1) - i).toNat = (idxS ks key (i + 1) - (i + 1)).toNat + 1 by omega]
   rfl
/-- What Get answers. -/
def getN (n : S28) (key : ByteArray) : S28 × Bool := match getT n key with
  | some x => (x, true)
  | none => (z28, false)
theorem getN_Fw (hF : Fw 8 n) (key : ByteArray) : Fw 8 (getN n key).1 := by
 unfold getN
 split
 ·rename_i x hx
  unfold getT at hx
  split at hx
  ·unfold Fw at hF
   exact Fw_succ 7 x (hF.2.2.2.2 x (getL_mem hx))
  ·cases hx
 ·exact Fw_z
theorem getJ_at (hF : Fw 8 n) (key : ByteArray) (K : Nat) : jtree_Get.f K n.f0 n.f1 n.f2 n.f3 key = some ((getN n key).1.f0, (getN n key).1.f1, (getN n key).1.f2, (getN n key).1.f3, (getN n key).2) := by
 have hY := getN_Fw hF key
 have h1 : n.f2.length ≤ 8 := by
  unfold Fw at hF
  exact hF.2.1
 have hg := getL_idx key n.f2 n.f3 0 (by omega)
 have hr := idxS_rng n.f2 key 0 (by omega)
 rw [Int.sub_zero] at hg
 unfold jtree_Get.f
 rw [if_pos (by omega)]
 unfold getN getT at hY ⊢
 by_cases c : n.f0 = 7 ∧ 0 ≤ idxS n.f2 key 0 ∧ idxS n.f2 key 0 < (n.f3.length : Int)
 case neg =>
  rw [if_neg c]
  by_cases c7 : n.f0 = 7
  case neg =>
   rw [if_neg c7]
   rfl
  have e : getL key n.f2 n.f3 = none := by
   rw [hg]
   split
   ·rfl
   ·exact List.getElem?_eq_none (by omega)
  rw [if_pos c7, e]
  rfl
 have hlt : (idxS n.f2 key 0).toNat < n.f3.length := by omega
 have e : getL key n.f2 n.f3 = some (rd_T28 n.f3 (idxS n.f2 key 0)) := by
  rw [hg, if_neg (by omega), rd_T28, List.getD_eq_getElem?_getD, List.getElem?_eq_getElem hlt]
  rfl
 rw [if_pos c.1, e] at hY ⊢
 rw [if_pos c, if_pos (okN_of 8 _ hY)]
theorem get_c (hF : Fw 8 n) (key : ByteArray) (h : CN w n A2 c2 A3 c3) : Calls Tryz.prog 15 #[nodeV n A2 c2 A3 c3, .string key] w fun e w' => ∃ B2 d2 B3 d3, e = .returned (.tuple #[nodeV (getN n key).1 B2 d2 B3 d3, .bool (getN n key).2]) ∧ CN w' (getN n key).1 B2 d2 B3 d3 ∧ Kd.R k28 28 w' w.heap.size (fun _ => True) (.slice B3 (getN n key).1.f3.length d3) (getN n key).1.f3 ∧ Below w.heap.size w w' := by
  refine (jtree_Get.calls 4000 _ _ _ _ n.f2 _ _ n.f3 key _ _ _ _ _ w h.1.2 h.1.1 h.2.2 h.2.1 (getJ_at hF key 4000)).mono ?_
  rintro e w' ⟨v2, v3, rfl, h2, h3, hb⟩
  obtain ⟨B2, d2, B3, d3, rfl, rfl, hC⟩ := CN_of_R h2 h3
  exact ⟨B2, d2, B3, d3, rfl, hC, Kd.R_mono h3 (fun _ _ => trivial), hb⟩
theorem getV_N (n : S28) (key : ByteArray) : getV (getT n key) = ((toR (getN n key).1).f0, (toR (getN n key).1).f1, (toR (getN n key).1).f2, (toR (getN n key).1).f3, (getN n key).2) := by
  unfold getN
  cases getT n key <;> rfl
theorem getR_c (hF : Fw 8 n) (key : ByteArray) (h : CR w (toR n) A2 c2 A3 c3) : Calls Tryz.prog 16 #[nodeR (toR n) A2 c2 A3 c3, .string key] w fun e w' => ∃ B2 d2 B3 d3, e = .returned (.tuple #[nodeR (toR (getN n key).1) B2 d2 B3 d3, .bool (getN n key).2]) ∧ CR w' (toR (getN n key).1) B2 d2 B3 d3 ∧ Below w.heap.size w w' := by
  refine (am.calls 4000 _ _ _ _ (toR n).f2 _ _ (toR n).f3 key _ _ _ _ _ w h.1.2 h.1.1 h.2.2 h.2.1 ((getR_at (q := 7) hF key (by omega)).trans (congrArg some (getV_N n key)))).mono ?_
  rintro e w' ⟨v2, v3, rfl, h2, h3, hb⟩
  obtain ⟨B2, d2, B3, d3, rfl, rfl, hC⟩ := CR_of_R h2 h3
  exact ⟨B2, d2, B3, d3, rfl, hC, hb⟩
/-- A node in a cell of memory, and what its slices show. -/
def NBx (w : World) (b : Nat) (n : S28) (A2 : Option Addr) (c2 : Nat) (A3 : Option Addr) (c3 : Nat) : Prop := w.heap[b]? = some (.cells #[.int .i64 n.f0, .string n.f1, .slice A2 n.f2.length c2, .slice A3 n.f3.length c3] 28 (0, 0)) ∧ CN w n A2 c2 A3 c3
def RBx (w : World) (b : Nat) (n : S37) (A2 : Option Addr) (c2 : Nat) (A3 : Option Addr) (c3 : Nat) : Prop := w.heap[b]? = some (.cells #[.int .i64 n.f0, .string n.f1, .slice A2 n.f2.length c2, .slice A3 n.f3.length c3] 37 (0, 0)) ∧ CR w n A2 c2 A3 c3
theorem NBx.below {b : Nat} (h : NBx w b n A2 c2 A3 c3) (hb : Below w.heap.size w w1) : NBx w1 b n A2 c2 A3 c3 := ⟨blk_below h.1 hb, h.2.below hb⟩
theorem RBx.below {b : Nat} (h : RBx w b x A2 c2 A3 c3) (hb : Below w.heap.size w w1) : RBx w1 b x A2 c2 A3 c3 := ⟨blk_below h.1 hb, h.2.below hb⟩
theorem NBx.new (h : CN w n A2 c2 A3 c3) : NBx (w.alloc (.cells #[.int .i64 n.f0, .string n.f1, .slice A2 n.f2.length c2, .slice A3 n.f3.length c3] 28)) w.heap.size n A2 c2 A3 c3 := ⟨heap_alloc_new w _, h.below (below_alloc (Below.refl _ _) _)⟩
theorem RBx.new (h : CR w x A2 c2 A3 c3) : RBx (w.alloc (.cells #[.int .i64 x.f0, .string x.f1, .slice A2 x.f2.length c2, .slice A3 x.f3.length c3] 37)) w.heap.size x A2 c2 A3 c3 := ⟨heap_alloc_new w _, h.below (below_alloc (Below.refl _ _) _)⟩
/-- What a store of a node into cells of memory does. -/
abbrev put4 (W : World) (b : Nat) (v0 v1 v2 v3 : Value) : World := (((W.setCell ⟨b, 0, none⟩ v0).setCell ⟨b, 1, none⟩ v1).setCell ⟨b, 2, none⟩ v2).setCell ⟨b, 3, none⟩ v3
theorem put4_own {t : TypeId} {W : World} {b : Nat} {u0 u1 u2 u3 : Value} (h : W.heap[b]? = some (.cells #[u0, u1, u2, u3] t (0, 0))) (v0 v1 v2 v3 : Value) : (put4 W b v0 v1 v2 v3).heap[b]? = some (.cells #[v0, v1, v2, v3] t (0, 0)) :=
  blk_put (cs' := #[v0, v1, v2, v3]) (blk_put (cs' := #[v0, v1, v2, u3]) (blk_put (cs' := #[v0, v1, u2, u3]) (blk_put (cs' := #[v0, u1, u2, u3]) h 0 v0 rfl) 1 v1 rfl) 2 v2 rfl) 3 v3 rfl
theorem put4_far {W : World} {b g : Nat} {cs : Array Value} {t : TypeId} (h : W.heap[g]? = some (.cells cs t (0, 0))) (hne : g ≠ b) (v0 v1 v2 v3 : Value) : (put4 W b v0 v1 v2 v3).heap[g]? = some (.cells cs t (0, 0)) := far4 h hne v0 v1 v2 v3
theorem fk {w0 W : World} {b : Nat} (hb : Below w0.heap.size w0 W) (hw : w0.heap.size ≤ b) (v0 v1 v2 v3 : Value) : Below w0.heap.size w0 (put4 W b v0 v1 v2 v3) := below4 hb hw v0 v1 v2 v3
theorem put4_R {α : Type} {d : Kd α} {e : Nat} {W : World} {base b : Nat} {v : Value} {xs : List α} (h : d.R e W base (fun _ => True) v xs) (hb : b < base) (v0 v1 v2 v3 : Value) : d.R e (put4 W b v0 v1 v2 v3) base (fun _ => True) v xs := by
  have h1 := Kd.R_mono (Kd.R_bound h) (ok' := fun k => k ≠ b) (fun k hk => p114z)
  have h2 := Kd.R_far (p := ⟨b, 3, none⟩) (Kd.R_far (p := ⟨b, 2, none⟩) (Kd.R_far (p := ⟨b, 1, none⟩) (Kd.R_far (p := ⟨b, 0, none⟩) h1 (fun _ hk => hk) v0) (fun _ hk => hk) v1) (fun _ hk => hk) v2) (fun _ hk => hk) v3
  exact Kd.R_mono h2 (fun _ _ => trivial)
theorem CN_R {base : Nat} {ok ok' : Nat → Prop} (h2 : Kd.R Kd.string 9 w base ok (.slice A2 n.f2.length c2) n.f2) (h3 : Kd.R k28 28 w base ok' (.slice A3 n.f3.length c3) n.f3) : CN w n A2 c2 A3 c3 := by
  obtain ⟨_, l2, C2⟩ := Kd.R_reads' h2
  obtain ⟨_, l3, C3⟩ := Kd.R_reads' h3
  exact ⟨⟨l2, C2⟩, ⟨l3, C3⟩⟩
abbrev putN (W : World) (b : Nat) (n : S28) (A2 : Option Addr) (c2 : Nat) (A3 : Option Addr) (c3 : Nat) : World := put4 W b (.int .i64 n.f0) (.string n.f1) (.slice A2 n.f2.length c2) (.slice A3 n.f3.length c3)
/-- Two nodes of the call's own, stored into cells that stood before. -/
theorem stored2 {W : World} {base bn bm : Nat} {u0 u1 u2 u3 v0 v1 v2 v3 : Value} (nm : bm ≠ bn) (hn : W.heap[bn]? = some (.cells #[u0, u1, u2, u3] 28 (0, 0))) (hm : W.heap[bm]? = some (.cells #[v0, v1, v2, v3] 28 (0, 0))) (gn : bn < base) (gm : bm < base)
    (h2 : Kd.R Kd.string 9 W base (fun _ => True) (.slice A2 n.f2.length c2) n.f2) (h3 : Kd.R k28 28 W base (fun _ => True) (.slice A3 n.f3.length c3) n.f3) (i2 : Kd.R Kd.string 9 W base (fun _ => True) (.slice B2 m.f2.length d2) m.f2) (i3 : Kd.R k28 28 W base (fun _ => True) (.slice B3 m.f3.length d3) m.f3) :
    NBx (putN (putN W bn n A2 c2 A3 c3) bm m B2 d2 B3 d3) bn n A2 c2 A3 c3 ∧ NBx (putN (putN W bn n A2 c2 A3 c3) bm m B2 d2 B3 d3) bm m B2 d2 B3 d3 :=
  ⟨⟨put4_far (put4_own hn _ _ _ _) nm.symm _ _ _ _, CN_R (put4_R (put4_R h2 gn _ _ _ _) gm _ _ _ _) (put4_R (put4_R h3 gn _ _ _ _) gm _ _ _ _)⟩, ⟨put4_own (put4_far hm nm _ _ _ _) _ _ _ _, CN_R (put4_R (put4_R i2 gn _ _ _ _) gm _ _ _ _) (put4_R (put4_R i3 gn _ _ _ _) gm _ _ _ _)⟩⟩
theorem iD (w : World) (o : Obj) : (w.alloc o).heap.size = w.heap.size + 1 := by simp
end
end Go.Proofs.YtodnggilomanbaaGreatDoor.Pure
end
section
namespace Go.Proofs.YtodnggilomanbaaGreatDoor.Pure
open Go.RowKit Go.Lib Go.Proofs.YtodnggilomanbaaGreatDoor.PAll Go.Proofs.YtodnggilomanbaaGreatDoorW.PrintWords Go.Proofs.YtodnggilomanbaaGreatDoorW.PrintLast Go.Proofs.YtodnggilomanbaaGreatDoorW.PrintMore Go.Proofs.YtodnggilomanbaaGreatDoor.Hand
set_option linter.unusedVariables false
set_option linter.unusedSimpArgs false

theorem Fw_len {n : S28} (h : Fw 8 n) : n.f2.length ≤ 8 ∧ n.f3.length ≤ 8 := by
  unfold Fw at h
  exact ⟨h.2.1, h.2.2.2.1⟩
/-- A row of nodes of the call's own, as cells. -/
theorem R_raw {W : World} {base : Nat} {ok : Nat → Prop} {v : Value} {L : List S28} (h : Kd.R k28 28 W base ok v L) : ∃ rows : List (List Value), rows.length = L.length ∧ (Kd.raw 4).R 28 W base ok v rows := by
 obtain ⟨hok, inner, hown, hrl, hrep⟩ := h
 refine ⟨(List.range L.length).map (fun j => (inner.drop (j * 4)).take 4), by simp, hok, inner, ?_, ?_, ?_⟩
 ·rw [List.length_map, List.length_range]
  exact hown
 ·rw [List.length_map, List.length_range]
  exact hrl
 ·intro j p hp
  have hj : j < L.length := by
   have := (List.getElem?_eq_some_iff.1 hp).1
   rwa [List.length_map, List.length_range] at this
  rw [List.getElem?_map, List.getElem?_range hj] at hp
  have hK := k28.K_of_M (hrep j _ (List.getElem?_eq_getElem hj))
  cases hp
  exact ⟨rfl, k28.K_len hK, k28.K_one hK⟩
structure Tl (y x : S28) (U : World) (bc bx : Nat) (C2 : Option Addr) (k2 : Nat) (C3 : Option Addr) (k3 : Nat) (X2 : Option Addr) (x2 : Nat) (X3 : Option Addr) (x3 : Nat) (W : World) (ks : List ByteArray) (rl rx : List (List Value)) : Prop where
  c : W.heap[bc]? = some (.cells #[.int .i64 y.f0, .string y.f1, .slice C2 y.f2.length k2, .slice C3 y.f3.length k3] 28 (0, 0))
  z : W.heap[bx]? = some (.cells #[.int .i64 x.f0, .string x.f1, .slice X2 x.f2.length x2, .slice X3 x.f3.length x3] 28 (0, 0))
  bl : Below U.heap.size U W
  K : Kd.R Kd.string 9 W U.heap.size (fun k => k ≠ bc ∧ k ≠ bx) (.slice C2 y.f2.length k2) ks
  L : (Kd.raw 4).R 28 W U.heap.size (fun k => k ≠ bc ∧ k ≠ bx) (.slice C3 y.f3.length k3) rl
  X : (Kd.raw 4).R 28 W U.heap.size (fun k => (k ≠ bc ∧ k ≠ bx) ∧ some k ≠ (Value.slice C3 y.f3.length k3).ownBlock) (.slice X3 x.f3.length x3) rx
section
variable {y x : S28} {U W w1 : World} {bc bx : Nat} {C2 C3 X2 X3 : Option Addr} {k2 k3 x2 x3 : Nat} {ks ks' : List ByteArray} {rl rl' rx rx' : List (List Value)}
theorem Tl.k (H : Tl y x U bc bx C2 k2 C3 k3 X2 x2 X3 x3 W ks rl rx) (hR : Kd.R Kd.string 9 w1 U.heap.size (fun k => k ≠ bc ∧ k ≠ bx) (.slice C2 y.f2.length k2) ks') (hB : Below U.heap.size U w1) (hg : W.grownBy w1 (Value.slice C2 y.f2.length k2).ownBlock) : Tl y x U bc bx C2 k2 C3 k3 X2 x2 X3 x3 w1 ks' rl rx where
  c := blk_grown H.c hg (fun e => (H.K.1 bc e.symm).1 rfl)
  z := blk_grown H.z hg (fun e => (H.K.1 bx e.symm).2 rfl)
  bl := hB
  K := hR
  L := Kd.R_over' H.L (Kd.R_typed H.K) (by decide) hg
  X := Kd.R_over' H.X (Kd.R_typed H.K) (by decide) hg
theorem Tl.l (H : Tl y x U bc bx C2 k2 C3 k3 X2 x2 X3 x3 W ks rl rx) (hR : (Kd.raw 4).R 28 w1 U.heap.size (fun k => k ≠ bc ∧ k ≠ bx) (.slice C3 y.f3.length k3) rl') (hB : Below U.heap.size U w1) (hg : W.grownBy w1 (Value.slice C3 y.f3.length k3).ownBlock) : Tl y x U bc bx C2 k2 C3 k3 X2 x2 X3 x3 w1 ks rl' rx where
  c := blk_grown H.c hg (fun e => (H.L.1 bc e.symm).1 rfl)
  z := blk_grown H.z hg (fun e => (H.L.1 bx e.symm).2 rfl)
  bl := hB
  K := Kd.R_over' H.K (Kd.R_typed H.L) (by decide) hg
  L := hR
  X := Kd.R_grown H.X hg (fun k hk => hk.2)
/-- An element of a row that is written anew: the store, and the row behind it. -/
theorem raw_put {ok : Nat → Prop} {A : Option Addr} {n c : Nat} {rows : List (List Value)} (H : (Kd.raw 4).R 28 W U.heap.size ok (.slice A n c) rows) (hB : Below U.heap.size U W) {i : Nat} (hi : i < n) (v0 v1 v2 v3 : Value) (h1 : ∀ q ∈ [v0, v1, v2, v3], q.oneCell' = true) :
    ∃ (ad : Addr) (W1 : World), A = some ad ∧ (Instr.storeAt 28 (.pointer (some (ad.add (i * 4)))) (.agg #[v0, v1, v2, v3])).run Tryz.prog W = .ok () W1 ∧
      (Kd.raw 4).R 28 W1 U.heap.size ok (.slice A n c) (rows.set i [v0, v1, v2, v3]) ∧ Below U.heap.size U W1 ∧ W.grownBy W1 (Value.slice A n c).ownBlock := by
  obtain ⟨A', c', e2, _, hC⟩ := Kd.R_reads H
  injection e2 with e2 e3 e4
  subst e2
  have hn : rows.length = n := e3.symm
  clear e3 e4
  obtain ⟨ad, rfl, hcell⟩ := hC.2.2 (by omega)
  obtain ⟨g, rfl⟩ := Kd.R_head H
  have hgb := Kd.R_base H g (by simp [Value.ownBlock])
  obtain ⟨p, hpl, hpM, hpc, hpf⟩ := Kd.R_elem H ([] : List Value) (i : Int) (by omega) (by omega)
  have hpl4 : p.length = 4 := hpl
  have hseg := Kd.R_seg (x' := [v0, v1, v2, v3]) (okp := fun _ => False) H (i : Int) (by omega) (by omega) (seg := [v0, v1, v2, v3]) (j := 0) hpl hpc (Nat.le_refl _) (by
    have e : p.take 0 ++ [v0, v1, v2, v3] ++ p.drop (0 + [v0, v1, v2, v3].length) = [v0, v1, v2, v3] := by
      rw [List.take_zero, List.nil_append, List.drop_eq_nil_iff.2 (by rw [hpl4]; exact Nat.le_refl _), List.append_nil]
    rw [e]
    exact ⟨rfl, rfl, h1⟩) (fun _ hk => hk.elim)
  have et : (i : Int).toNat * (Kd.raw 4).sz + 0 = i * 4 := by rw [Int.toNat_natCast]; rfl
  rw [et, Int.toNat_natCast] at hseg
  refine ⟨⟨g, 0, none⟩, W.setCells g (i * 4) [v0, v1, v2, v3], rfl, ?_, hseg.1, below_set (below_set (below_set (below_set hB hgb) hgb) hgb) hgb, hseg.2⟩
  exact row_put H hn hi v0 v1 v2 v3 h1
theorem Tl.kstep (H : Tl y x U bc bx C2 k2 C3 k3 X2 x2 X3 x3 W ks rl rx) {i : Nat} (hi : i < y.f2.length) (o : ByteArray) : ∃ (ad : Addr) (u : Value), C2 = some ad ∧ W.cell? (ad.add i) = some u ∧ W.frozen? (ad.add i) = false ∧ Tl y x U bc bx C2 k2 C3 k3 X2 x2 X3 x3 (W.setCell (ad.add i) (.string o)) (ks.set i o) rl rx := by
 obtain ⟨A', c', e2, _, hC⟩ := Kd.R_reads H.K
 injection e2 with e2 e3 e4
 subst e2
 obtain ⟨ad, rfl, hcell⟩ := hC.2.2 (by omega)
 obtain ⟨g, rfl⟩ := Kd.R_head H.K
 have hgb := Kd.R_base H.K g (by simp [Value.ownBlock])
 obtain ⟨p, hpl, hpM, hpc, hpf⟩ := Kd.R_elem H.K (⟨#[]⟩ : ByteArray) (i : Int) (by omega) (by omega)
 have hpl1 : p.length = 1 := hpl
 have hseg := Kd.R_seg (x' := o) (okp := fun _ => False) H.K (i : Int) (by omega) (by omega) (seg := [.string o]) (j := 0) hpl hpc (Nat.le_refl _) (by
  have e : p.take 0 ++ [Value.string o] ++ p.drop (0 + [Value.string o].length) = [Value.string o] := by
   rw [List.take_zero, List.nil_append, List.drop_eq_nil_iff.2 (by rw [hpl1]; exact Nat.le_refl _), List.append_nil]
  rw [e]
  rfl) (fun _ hk => hk.elim)
 have et : (i : Int).toNat * Kd.string.sz + 0 = i := by
  rw [Int.toNat_natCast]
  show i * 1 + 0 = i
  omega
 rw [et, Int.toNat_natCast] at hseg
 have hw : W.setCells g i [.string o] = W.setCell ((⟨g, 0, none⟩ : Addr).add i) (.string o) := by
  rw [add_at, Nat.zero_add]
  rfl
 rw [hw] at hseg
 have e1 : (i : Int).toNat * Kd.string.sz + 0 = i := et
 obtain ⟨u, rfl⟩ : ∃ u, p = [u] := List.length_eq_one_iff.1 hpl1
 have hc0 := hpc 0 u rfl
 have hf0 := hpf 0
 rw [e1] at hc0 hf0
 refine ⟨⟨g, 0, none⟩, u, rfl, ?_, ?_, H.k hseg.1 ?_ hseg.2⟩
 ·rw [add_at, Nat.zero_add]
  exact hc0
 ·rw [add_at, Nat.zero_add]
  exact hf0
 ·rw [add_at, Nat.zero_add]
  exact below_set H.bl hgb
theorem one_z : ∀ q ∈ ([.int .i64 0, .string ⟨#[]⟩, .slice none 0 0, .slice none 0 0] : List Value), q.oneCell' = true := by
  intro q hq
  simp only [List.mem_cons, List.not_mem_nil, or_false] at hq
  rcases hq with rfl | rfl | rfl | rfl <;> rfl
theorem Tl.lstep (H : Tl y x U bc bx C2 k2 C3 k3 X2 x2 X3 x3 W ks rl rx) {i : Nat} (hi : i < y.f3.length) : ∃ (ad : Addr) (W1 : World), C3 = some ad ∧ (Instr.storeAt 28 (.pointer (some (ad.add (i * 4)))) (.agg #[.int .i64 0, .string ⟨#[]⟩, .slice none 0 0, .slice none 0 0])).run Tryz.prog W = .ok () W1 ∧
      Tl y x U bc bx C2 k2 C3 k3 X2 x2 X3 x3 W1 ks (rl.set i [.int .i64 0, .string ⟨#[]⟩, .slice none 0 0, .slice none 0 0]) rx := by
  obtain ⟨ad, W1, e, hp, hR, hB, hg⟩ := raw_put H.L H.bl hi _ _ _ _ one_z
  exact ⟨ad, W1, e, hp, H.l hR hB hg⟩
/-- Behind the writes into c: x alone. -/
structure Tx (x : S28) (U : World) (bx : Nat) (X2 : Option Addr) (x2 : Nat) (X3 : Option Addr) (x3 : Nat) (W : World) (rx : List (List Value)) : Prop where
  z : W.heap[bx]? = some (.cells #[.int .i64 x.f0, .string x.f1, .slice X2 x.f2.length x2, .slice X3 x.f3.length x3] 28 (0, 0))
  bl : Below U.heap.size U W
  X : (Kd.raw 4).R 28 W U.heap.size (fun k => k ≠ bx) (.slice X3 x.f3.length x3) rx
theorem Tl.tx (H : Tl y x U bc bx C2 k2 C3 k3 X2 x2 X3 x3 W ks rl rx) : Tx x U bx X2 x2 X3 x3 W rx := ⟨H.z, H.bl, Kd.R_mono H.X (fun _ hk => hk.1.2)⟩
theorem Tx.step (H : Tx x U bx X2 x2 X3 x3 W rx) {i : Nat} (hi : i < x.f3.length) : ∃ (ad : Addr) (W1 : World), X3 = some ad ∧ (Instr.storeAt 28 (.pointer (some (ad.add (i * 4)))) (.agg #[.int .i64 0, .string ⟨#[]⟩, .slice none 0 0, .slice none 0 0])).run Tryz.prog W = .ok () W1 ∧
      Tx x U bx X2 x2 X3 x3 W1 (rx.set i [.int .i64 0, .string ⟨#[]⟩, .slice none 0 0, .slice none 0 0]) := by
  obtain ⟨ad, W1, e, hp, hR, hB, hg⟩ := raw_put H.X H.bl hi _ _ _ _ one_z
  exact ⟨ad, W1, e, hp, blk_grown H.z hg (fun e => H.X.1 bx e.symm rfl), hB, hR⟩
/-- How it begins. -/
theorem Tl.init {W9 : World} (hc : W.heap[bc]? = some (.cells #[.int .i64 y.f0, .string y.f1, .slice C2 y.f2.length k2, .slice C3 y.f3.length k3] 28 (0, 0))) (hx : W.heap[bx]? = some (.cells #[.int .i64 x.f0, .string x.f1, .slice X2 x.f2.length x2, .slice X3 x.f3.length x3] 28 (0, 0))) (hB : Below U.heap.size U W)
 {w8 w10 : World} (ebc : w10.heap.size ≤ bc) (ebx : w8.heap.size ≤ bx) (g9 : bx < W9.heap.size) (gU : U.heap.size ≤ W9.heap.size) (gw8 : w8.heap.size ≤ W9.heap.size)
 (hK : Kd.R Kd.string 9 w10 W9.heap.size (fun _ => True) (.slice C2 y.f2.length k2) y.f2) (hL : Kd.R k28 28 w10 W9.heap.size (fun _ => True) (.slice C3 y.f3.length k3) y.f3) (hX : Kd.R k28 28 w8 U.heap.size (fun _ => True) (.slice X3 x.f3.length x3) x.f3)
 (b10 : Below w10.heap.size w10 W) (b8 : Below w8.heap.size w8 W) (g10 : W9.heap.size ≤ w10.heap.size) : ∃ rl rx, Tl y x U bc bx C2 k2 C3 k3 X2 x2 X3 x3 W y.f2 rl rx := by
 obtain ⟨rl, _, hL⟩ := R_raw hL
 obtain ⟨rx, _, hX⟩ := R_raw hX
 have hcb := Kd.R_base hL
 refine ⟨rl, rx, hc, hx, hB, ?_, ?_, ?_⟩
 ·exact Kd.R_lower (Kd.R_mono (Kd.R_below (Kd.R_bound hK) b10) (fun k hk => ⟨by have := hk.2.2.1; omega, p114z⟩)) gU
 ·exact Kd.R_lower (Kd.R_mono (Kd.R_below (Kd.R_bound hL) b10) (fun k hk => ⟨by have := hk.2.2.1; omega, p114z⟩)) gU
 ·exact Kd.R_mono (Kd.R_below (Kd.R_bound hX) b8) (fun k hk => ⟨⟨by have := hk.2.2.1; omega, by have := hk.2.2.1; omega⟩, fun e => by have := hcb k e.symm; have := hk.2.2.1; omega⟩)
end
end Go.Proofs.YtodnggilomanbaaGreatDoor.Pure
end
