/-
  wire.Check in plain words; a row of slices that is filled, one a round. No walk.
-/
import Derived.Test.YtbclejgljegfmaaGB
import Derived.Test.YtbclejgljegfmaaHandCat
namespace Go.Proofs.Ytbclejgljegfmaa.Hand
open Go.RowKit Go.Proofs.YtbclejgljegfmaaW.PrintWords Go.Proofs.Ytbclejgljegfmaa.PAll

def isRec (r : S33) : Bool := isB r.f3 && isB r.f4 && decide (r.f3.length ≤ 1099511627776) && decide (r.f4.length ≤ 1099511627776)
def chk (r : S33) : Int := if nxt r.f4 = (r.f0, r.f1, r.f2, r.f3, r.f4, (r.f4.length : Int), 0) then 0 else 2
theorem fr {r : S33} (h : isRec r = true) : isB r.f3 = true ∧ isB r.f4 = true ∧ r.f3.length ≤ 1099511627776 ∧ r.f4.length ≤ 1099511627776 := by
  simp only [isRec, Bool.and_eq_true, decide_eq_true_eq] at h
  exact ⟨h.1.1.1, h.1.1.2, h.1.2, h.2⟩

theorem rd_eq (l : List Int) (i : Nat) (h : i < l.length) : rd l (i : Int) = l[i] := by
  simp [rd, List.getD_eq_getElem?_getD, List.getElem?_eq_getElem h]
theorem equal_l0 (a b : List Int) (hab : a.length = b.length) (ha : a.length ≤ 1099511627776) : ∀ (d k i : Nat), a.length - i = d → i ≤ a.length → d + 1 ≤ k → an.l0 k a b (a.length : Int) i = some (decide (a.drop i = b.drop i))
 | d, k, i, hd, hi, hk => by
  obtain ⟨k, rfl⟩ : ∃ q, k = q + 1 := ⟨k - 1, by omega⟩
  simp only [an.l0]
  by_cases h : i < a.length
  case neg =>
   rw [if_neg (by omega), List.drop_of_length_le (by omega), List.drop_of_length_le (by omega)]
   simp
  have hb : i < b.length := by omega
  obtain ⟨d, rfl⟩ : ∃ q, d = q + 1 := ⟨d - 1, by omega⟩
  rw [if_pos (by omega), if_pos (by omega), if_pos (by omega), if_pos (by omega), rd_eq a i h, rd_eq b i hb, List.drop_eq_getElem_cons h, List.drop_eq_getElem_cons hb]
  by_cases he : a[i] = b[i]
  case neg =>
   rw [if_neg he]
   simp only [List.cons.injEq, he, false_and, decide_false]
  have hw : wrap64 ((i : Int) + 1) = ((i + 1 : Nat) : Int) := by unfold wrap64; omega
  rw [if_pos he, hw, equal_l0 a b hab ha d k (i + 1) (by omega) (by omega) (by omega)]
  simp only [List.cons.injEq, he, true_and]
theorem equal_f (a b : List Int) (ha : a.length ≤ 1099511627776) (k : Nat) (hk : a.length + 1 ≤ k) : an.f k a b = some (decide (a = b)) := by
 unfold an.f
 by_cases h : a.length = b.length
 case neg =>
  rw [if_neg (by omega), decide_eq_false (fun e => h (by rw [e]))]
 rw [if_pos (by omega)]
 have := equal_l0 a b h ha a.length k 0 (by omega) (by omega) hk
 simpa using this
theorem wsame_f (a0 a1 a2 : Int) (a3 a4 : List Int) (b0 b1 b2 : Int) (b3 b4 : List Int) (hb : b3.length ≤ 1099511627776) (hb' : b4.length ≤ 1099511627776) (k : Nat) (hk : b3.length + b4.length + 1 ≤ k) : wire_Same.f k a0 a1 a2 a3 a4 b0 b1 b2 b3 b4 = some (decide ((a0, a1, a2, a3, a4) = (b0, b1, b2, b3, b4))) := by
 unfold wire_Same.f
 have e : ∀ a b : List Int, b.length ≤ 1099511627776 → b.length + 1 ≤ k → an.f k a b = some (decide (a = b)) := by
  intro a b hb hk
  by_cases h : a.length = b.length
  case pos =>
   exact equal_f a b (by omega) k (by omega)
  unfold an.f
  rw [if_neg (by omega), decide_eq_false (fun e => h (by rw [e]))]
 rw [e a3 b3 hb (by omega), e a4 b4 hb' (by omega)]
 by_cases h0 : a0 = b0 <;> by_cases h1 : a1 = b1 <;> by_cases h2 : a2 = b2 <;> by_cases h3 : a3 = b3 <;> simp [h0, h1, h2, h3]
theorem check_f {r : S33} (h : isRec r = true) (k : Nat) (hk : r.f3.length + r.f4.length + 1 ≤ k) : bq.f k r.f0 r.f1 r.f2 r.f3 r.f4 = some (chk r) := by
 obtain ⟨_, h4, h5, h6⟩ := fr h
 unfold bq.f chk
 rw [wire_Next.f, if_pos ⟨h4, h6⟩, Option.bind_some]
 obtain ⟨t, ht⟩ : ∃ t, t = nxt r.f4 := ⟨_, rfl⟩
 rw [← ht]
 obtain ⟨t0, t1, t2, t3, t4, t5, t6⟩ := t
 simp only
 rw [wsame_f _ _ _ _ _ _ _ _ _ _ h5 h6 k hk]
 by_cases he : t6 = 0
 case neg =>
  rw [if_neg he, if_neg]
  rintro ⟨⟩
  exact he rfl

 by_cases hn : t5 = (r.f4.length : Int)
 case neg =>
  rw [if_pos he, if_neg hn, if_neg]
  rintro ⟨⟩
  exact hn rfl
 rw [if_pos he, if_pos hn]
 by_cases hs : (t0, t1, t2, t3, t4) = (r.f0, r.f1, r.f2, r.f3, r.f4)
 case neg =>
  rw [decide_eq_false hs, if_neg]
  ·simp
  ·rintro ⟨⟩
   exact hs rfl
 rw [decide_eq_true hs]
 simp only [Prod.mk.injEq] at hs
 simp [hs, hn, he]
/-- The first i slots of the row g hold the records' own bytes (as they are in the world w0). -/
def Filled (w0 W : World) (g n i : Nat) (l : List S33) : Prop := ∃ cur, W.heap[g]? = some (.cells cur 22 (0, 0)) ∧ cur.size = n ∧ ∀ j x, j < i → l[j]? = some x → ∃ A c, cur[j]? = some (.slice A x.f4.length c) ∧ x.f4.length ≤ c ∧ (Kd.int .u8).C w0 A x.f4.length x.f4
theorem Filled.start {w0 W : World} {b g n m c : Nat} {l : List S33} {xs : List Value} (h : W.ownsRow b 22 1 (.slice (some ⟨g, 0, none⟩) n c) m xs) (hm : m = n) (hc : c = n) : Filled w0 W g n 0 l := by
 obtain ⟨_, h | ⟨g', cap, cur, e, _, hh, _, _, hs, _⟩⟩ := h
 ·cases h.1
 ·injection e with e1 e2 e3
  injection e1 with e1
  injection e1 with e1
  subst e1
  exact ⟨cur, hh, by omega, fun j x hj => absurd hj (Nat.not_lt_zero _)⟩
theorem Filled.move {w0 W W1 : World} {g n i : Nat} {l : List S33} (h : Filled w0 W g n i l) (hm : W1.heap[g]? = W.heap[g]?) : Filled w0 W1 g n i l := by
  obtain ⟨cur, h1, h2, h3⟩ := h
  exact ⟨cur, hm.trans h1, h2, h3⟩
theorem Filled.lt {w0 W : World} {g n i : Nat} {l : List S33} (h : Filled w0 W g n i l) : g < W.heap.size := by
  obtain ⟨cur, h1, _⟩ := h
  exact (Array.getElem?_eq_some_iff.1 h1).1
theorem Filled.put {w0 W : World} {g n i : Nat} {l : List S33} (h : Filled w0 W g n i l) (hi : i < n) {x : S33} (hx : l[i]? = some x) {A : Option Addr} {c : Nat} (hc : x.f4.length ≤ c) (hC : (Kd.int .u8).C w0 A x.f4.length x.f4) : Filled w0 (W.setCell ⟨g, i, none⟩ (.slice A x.f4.length c)) g n (i + 1) l := by
 obtain ⟨cur, h1, h2, h3⟩ := h
 refine ⟨_, heap_setCell_same W g i cur 22 _ h1, by simpa using h2, ?_⟩
 intro j y hj hy
 by_cases he : j = i
 case pos =>
  subst he
  rw [hx] at hy
  cases hy
  exact ⟨A, c, by simp [h2, hi], hc, hC⟩
 obtain ⟨A', c', h4, h5⟩ := h3 j y (by omega) hy
 exact ⟨A', c', by rw [← h4]; simp [Ne.symm he], h5⟩
theorem Filled.cell {w0 W : World} {g n i : Nat} {l : List S33} (h : Filled w0 W g n i l) {j : Nat} (hj : j < n) : (∃ u, W.cell? ⟨g, j, none⟩ = some u) ∧ W.frozen? ⟨g, j, none⟩ = false := by
 obtain ⟨cur, h1, h2, _⟩ := h
 refine ⟨⟨cur[j]'(by omega), ?_⟩, ?_⟩
 ·simp [World.cell?, h1, Array.getElem?_eq_getElem (show j < cur.size by omega)]
 ·simp [World.frozen?, h1]
theorem Filled.row {w0 W : World} {g : Nat} {l : List S33} (h : Filled w0 W g l.length l.length l) (hB : Below w0.heap.size w0 W) (hn : l.length ≤ 9223372036854775807) : (Kd.slice 5 (Kd.int .u8)).C W (some ⟨g, 0, none⟩) (l.map S33.f4).length (l.map S33.f4) := by
 obtain ⟨cur, h1, h2, h3⟩ := h
 refine ⟨rfl, by simpa using hn, fun _ => ⟨_, rfl, ?_⟩⟩
 intro j p hp
 rw [List.getElem?_map] at hp
 obtain ⟨x, hx, rfl⟩ := Option.map_eq_some_iff.1 hp
 have hj : j < l.length := (List.getElem?_eq_some_iff.1 hx).1
 obtain ⟨A, c, h4, h5, h6⟩ := h3 j x hj hx
 refine ⟨[.slice A x.f4.length c], rfl, ⟨A, c, rfl, h5, Kd.C_below h6 hB⟩, ?_⟩
 intro i u hu
 rcases i with _ | i
 ·simp only [List.getElem?_cons_zero, Option.some.injEq] at hu
  subst hu
  have hsz : (Kd.slice 5 (Kd.int .u8)).sz = 1 := rfl
  rw [hsz, Nat.mul_one, Nat.add_zero]
  rcases Nat.eq_zero_or_pos j with h0 | h0
  ·subst h0
   simp [World.cell?, Addr.add, h1, h4]
  ·simp [World.cell?, Addr.add, h1, h4, show j ≠ 0 by omega]
 ·simp at hu
/-- How many bytes the first i records are. -/
def tot (l : List S33) (i : Nat) : Nat := ((l.take i).flatMap S33.f4).length
theorem tot_next {l : List S33} {i : Nat} {x : S33} (hx : l[i]? = some x) : tot l (i + 1) = tot l i + x.f4.length := by
  unfold tot
  rw [List.take_add_one, hx]
  simp
theorem tot_le {l : List S33} (h : l.all isRec = true) : ∀ i : Nat, i ≤ l.length → tot l i ≤ i * 1099511627776
  | 0, _ => by simp [tot]
  | i + 1, hi => by
    have hx : l[i]? = some l[i] := List.getElem?_eq_getElem (by omega)
    have := (fr (List.all_eq_true.1 h _ (List.getElem_mem (show i < l.length by omega)))).2.2.2
    have := tot_le h i (by omega)
    rw [tot_next hx]
    omega
theorem tot_all (l : List S33) : tot l l.length = (l.flatMap S33.f4).length := by
  unfold tot
  rw [List.take_of_length_le (Nat.le_refl _)]
theorem flat_map (l : List S33) : (l.map S33.f4).flatten = l.flatMap S33.f4 := by rw [List.flatMap_def]
theorem all_ok {l : List S33} (h : ∀ j x, j < l.length → l[j]? = some x → chk x = 0) : l.all (fun r => decide (chk r = 0)) = true := by
  rw [List.all_eq_true]
  intro x hx
  obtain ⟨j, hj, rfl⟩ := List.mem_iff_getElem.1 hx
  exact decide_eq_true (h j _ hj (List.getElem?_eq_getElem hj))
theorem not_ok {l : List S33} {j : Nat} {x : S33} (hj : l[j]? = some x) (h : chk x ≠ 0) : l.all (fun r => decide (chk r = 0)) = false := by
  rw [List.all_eq_false]
  exact ⟨x, List.mem_of_getElem? hj, by simpa using h⟩
theorem chk_cases (x : S33) : chk x = 0 ∨ chk x = 2 := by
 unfold chk
 split
 ·exact .inl rfl
 ·exact .inr rfl
theorem rdT_eq (l : List S33) (i : Nat) (h : i < l.length) : l[i]? = some (rd_T33 l (i : Int)) := by
  simp [rd_T33, List.getD_eq_getElem?_getD, List.getElem?_eq_getElem h]
end Go.Proofs.Ytbclejgljegfmaa.Hand
