/-
  Where a text that is cut is wrong: no walk.
-/
import Derived.Test.YtodnggilomanbaaDoorPlainTree
namespace Go.Proofs.YtodnggilomanbaaDoor.Pure
open Go.RowKit Go.Lib Go.Proofs.YtodnggilomanbaaDoor.PAll Go.Proofs.YtodnggilomanbaaDoorW.PrintWords Go.Proofs.YtodnggilomanbaaDoorW.PrintLast Go.Proofs.YtodnggilomanbaaDoorW.PrintMore Go.Proofs.YtodnggilomanbaaDoor.Hand
set_option linter.unusedVariables false
set_option linter.unusedSimpArgs false

/-- A place that may be told: the end, or a string's beginning. -/
def Good (s : ByteArray) (p : Int) : Prop := (0 ≤ p ∧ p ≤ (s.size : Int)) ∧ (p = (s.size : Int) ∨ bt s p = 34)
theorem Good.fin (s : ByteArray) : Good s (s.size : Int) := ⟨⟨by omega, Int.le_refl _⟩, Or.inl rfl⟩
theorem dr_end {s : ByteArray} {x : Nat} (h : (bytesOf s).drop x = []) (hx : x ≤ s.size) : x = s.size := by
  have := congrArg List.length h
  rw [List.length_drop, bytesOf_length, List.length_nil] at this
  omega
theorem dr_len {s : ByteArray} {x : Nat} {q : List Int} (h : (bytesOf s).drop x = q) (hx : x ≤ s.size) : x + q.length = s.size := by
  have := congrArg List.length h
  rw [List.length_drop, bytesOf_length] at this
  omega
theorem cons_cut {c d : Int} {q r w : List Int} (h : (c :: q) ++ r = d :: w) : c = d ∧ q ++ r = w := List.cons.inj h
/-- A cut through a join: ahead of the second part's beginning, or not. -/
theorem cut_app {q r a b : List Int} (h : q ++ r = a ++ b) : (∃ r', r' ≠ [] ∧ q ++ r' = a) ∨ ∃ q', q = a ++ q' ∧ q' ++ r = b := by
  rcases List.append_eq_append_iff.1 h with ⟨a', h1, h2⟩ | ⟨c', h1, h2⟩
  · rcases a' with _ | ⟨c, a'⟩
    · exact Or.inr ⟨[], by simpa using h1.symm, by simpa using h2⟩
    · exact Or.inl ⟨c :: a', by simp, h1.symm⟩
  · exact Or.inr ⟨c', h1, h2.symm⟩
theorem blanks_end {s : ByteArray} : blanksF s (s.size : Int) = (s.size : Int) := by
  have h : (bytesOf s).drop s.size = [] ++ [] := by rw [List.append_nil, List.drop_eq_nil_iff, bytesOf_length]; exact Nat.le_refl _
  exact blanks_at h AB.nil (fun c hc => by cases hc)
theorem blanks_no {s : ByteArray} {x : Nat} {c : Int} {r : List Int} (h : (bytesOf s).drop x = c :: r) (hc : isBl c = false) : blanksF s (x : Int) = (x : Int) := blanks_at (b := []) h AB.nil (NB.one hc)
theorem now_fin {s : ByteArray} : nowF s (s.size : Int) = 0 := by unfold nowF; rw [if_pos rfl]
/-! ### words -/
theorem word_cut {s : ByteArray} : ∀ (w : List Int) (x : Nat) (q r : List Int), (bytesOf s).drop x = q → q ++ r = w → r ≠ [] → x ≤ s.size → wordF s w (x : Int) = .error (s.size : Int)
  | [], x, q, r, _, hw, hr, _ => by
    have := List.append_eq_nil_iff.1 hw
    exact absurd this.2 hr
  | c :: w, x, [], r, hd, hw, hr, hx => by
    obtain rfl := dr_end hd hx
    rw [wordF, if_pos rfl]
  | c :: w, x, d :: q, r, hd, hw, hr, hx => by
    obtain ⟨rfl, hw2⟩ := cons_cut hw
    have h1 := dr_lt hd
    have h2 := dr_step (p := [d]) hd
    rw [wordF, if_neg (by omega), bt_dr hd, if_pos rfl, show (x : Int) + 1 = ((x + 1 : Nat) : Int) by omega]
    exact word_cut w (x + 1) q r h2 hw2 hr (by omega)
/-! ### strings -/
theorem scanE_far : ∀ (n : Nat) (q r : List Int), q.length ≤ n → scanE q < q.length → scanE (q ++ r) = scanE q
  | _, [], r, _, h => by simp at h
  | 0, c :: t, r, hn, _ => by simp at hn
  | n + 1, c :: t, r, hn, h => by
    rw [List.length_cons] at hn h
    rw [List.cons_append, scanE_at, scanE_at]
    rw [scanE_at] at h
    by_cases h34 : c = 34
    · rw [if_pos h34, if_pos h34]
    · rw [if_neg h34] at h ⊢
      rw [if_neg h34]
      by_cases h92 : c = 92
      · rw [if_pos h92] at h ⊢
        rw [if_pos h92]
        rcases t with _ | ⟨d, t⟩
        · simp [scanE] at h
        · simp only [List.drop_succ_cons, List.drop_zero, List.cons_append, List.length_cons] at h hn ⊢
          rw [scanE_far n t r (by omega) (by omega)]
      · rw [if_neg h92] at h ⊢
        rw [if_neg h92, scanE_far n t r (by omega) (by omega)]
theorem quo_scan (t : ByteArray) : scanE ((bytesOf t).flatMap escB ++ [34]) = ((bytesOf t).flatMap escB).length := by
  have h := (sps_bytes (bytesOf t) (bytes_bd t)).scan [34]
  rw [h]
  rfl
theorem str_cut {s t : ByteArray} {x : Nat} {q r : List Int} (hd : (bytesOf s).drop x = q) (hw : q ++ r = quoL t) (hr : r ≠ []) (hx : x ≤ s.size) : ∃ p, strF s (x : Int) = .error p ∧ Good s p := by
  rcases q with _ | ⟨c, q⟩
  · obtain rfl := dr_end hd hx
    exact ⟨_, by unfold strF; rw [wordF, if_pos rfl], Good.fin s⟩
  · obtain ⟨rfl, hw2⟩ := cons_cut hw
    have h1 := dr_lt hd
    have h2 := dr_step (p := [34]) hd
    have hb := bt_dr hd
    have hg : Good s (x : Int) := ⟨by omega, Or.inr hb⟩
    have hE : (s.size : Int) ≤ endF s ((x : Int) + 1) := by
      unfold endF
      have h2' : (bytesOf s).drop (x + 1) = q := h2
      have hl := dr_len h2' (by omega)
      rw [show ((x : Int) + 1).toNat = x + 1 by omega, h2']
      by_cases hlt : scanE q < q.length
      · have h3 := scanE_far _ q r (Nat.le_refl _) hlt
        have h4 := quo_scan t
        rw [hw2, h4] at h3
        have h5 := congrArg List.length hw2
        rw [List.length_append, List.length_append, List.length_singleton] at h5
        have : 1 ≤ r.length := List.length_pos_iff.2 hr
        omega
      · omega
    unfold strF
    rw [word1 (by omega), if_pos ⟨by omega, hb⟩]
    simp only
    split
    · exact ⟨_, rfl, hg⟩
    · exact ⟨_, rfl, Good.fin s⟩
    · rw [if_neg (by omega)]
      exact ⟨_, rfl, Good.fin s⟩
theorem key_cut {s k : ByteArray} {had : List ByteArray} {x : Nat} {q r : List Int} (hd : (bytesOf s).drop x = q) (hw : q ++ r = quoL k ++ [58]) (hr : r ≠ []) (hx : x ≤ s.size) (hv : badF k = false) : ∃ p, keyF s had (x : Int) = .error p ∧ Good s p := by
  have hB : blanksF s (x : Int) = (x : Int) := by
    rcases q with _ | ⟨c, q⟩
    · obtain rfl := dr_end hd hx
      exact blanks_end
    · obtain ⟨rfl, _⟩ := cons_cut (show (c :: q) ++ r = 34 :: ((bytesOf k).flatMap escB ++ [34] ++ [58]) from hw)
      exact blanks_no hd (by decide)
  unfold keyF
  rw [hB]
  rcases cut_app hw with ⟨r', hr', h1⟩ | ⟨q', h1, h2⟩
  · obtain ⟨p, h3, h4⟩ := str_cut hd h1 hr' hx
    rw [h3]
    exact ⟨p, rfl, h4⟩
  · obtain rfl : q' = [] := by
      have := congrArg List.length h2
      rw [List.length_append, List.length_singleton] at this
      have : 1 ≤ r.length := List.length_pos_iff.2 hr
      exact List.length_eq_zero_iff.1 (by omega)
    rw [h1] at hd
    have h3 := str_at hd hv
    have h4 := dr_len hd hx
    rw [List.append_nil] at h4
    rw [h3]
    simp only
    rw [h4]
    split
    · obtain ⟨t, ht⟩ := quo_head k
      rw [ht] at hd
      exact ⟨_, rfl, ⟨by omega, Or.inr (bt_dr hd)⟩⟩
    · rw [blanks_end, wordF, if_pos rfl]
      exact ⟨_, rfl, Good.fin s⟩
/-! ### numbers -/
theorem num_cut {s t : ByteArray} {x : Nat} {q r : List Int} {many deep : Int} (ht : isNumF t = true) (hd : (bytesOf s).drop x = q) (hw : q ++ r = bytesOf t) (hq : q ≠ []) (hx : x ≤ s.size) :
    numberF s (x : Int) many deep = .error ((s.size : Int), 140) ∨ ∃ nd, numberF s (x : Int) many deep = .ok (nd, (s.size : Int), many, deep) := by
  obtain ⟨sg, ds, hb, hs, hdg, h1, h40, h48⟩ := num_parts ht
  have hqs : ∃ q', q = sg ++ q' ∧ q' ++ r = ds := by
    rw [hb] at hw
    rcases hs with rfl | rfl
    · rcases q with _ | ⟨c, q⟩
      · exact absurd rfl hq
      · obtain ⟨rfl, h⟩ := cons_cut (show (c :: q) ++ r = 45 :: ds from hw)
        exact ⟨q, rfl, h⟩
    · exact ⟨q, rfl, hw⟩
  obtain ⟨q', rfl, hq'⟩ := hqs
  have hl := dr_len hd hx
  have hdq : ∀ c ∈ q', isDgt c = true := fun c hc => hdg c (by rw [← hq']; exact List.mem_append_left _ hc)
  rcases q' with _ | ⟨c, q'⟩
  · left
    rcases hs with rfl | rfl
    · have e : numAt s (x : Int) = (s.size : Int) := by
        unfold numAt
        have h45 : nowF s (x : Int) = 45 := now_at (r := []) hd
        rw [if_pos h45]
        simp at hl
        omega
      unfold numberF
      rw [e]
      have : (bytesOf s).drop ((s.size : Int)).toNat = [] := by rw [Int.toNat_natCast, List.drop_eq_nil_iff, bytesOf_length]; exact Nat.le_refl _
      rw [this, if_pos (by decide)]
    · exact absurd rfl hq
  · right
    obtain ⟨u, hu⟩ : ∃ u : ByteArray, bytesOf u = sg ++ (c :: q') := by
      refine ⟨t.extract 0 (sg ++ (c :: q')).length, ?_⟩
      rw [bytesOf_sl, hb, ← hq', ← List.append_assoc, List.drop_zero, List.take_left]
    have hl40 : (c :: q').length ≤ 40 := by
      have := congrArg List.length hq'
      rw [List.length_append] at this
      omega
    have hh : (c :: q').length = 1 ∨ (c :: q').head? ≠ some 48 := by
      rcases h48 with h | h
      · left
        have := congrArg List.length hq'
        rw [List.length_append] at this
        simp only [List.length_cons] at this ⊢
        omega
      · right
        rw [← hq'] at h
        exact h
    have hn := num_mk hu hs hdq (by simp) hl40 hh
    have h3 := number_at (tail := []) (many := many) (deep := deep) hn (by rw [hu, List.append_nil]; exact hd) hx (fun c hc => by cases hc)
    rw [hu, hl] at h3
    exact ⟨_, h3⟩
/-! ### nodes -/
def NCut (n : S32) : Prop := ∀ (s : ByteArray) (x : Nat) (q r : List Int) (many : Nat) (D k : Nat), (bytesOf s).drop x = q → q ++ r = spc [] n → r ≠ [] → x ≤ s.size → mayF n ((D : Int) + 1) = true → k + D = 61 → many + cnt n ≤ 4000 →
  (∃ p, nodeF s k (x : Int) (many : Int) (D : Int) = .error (p, 140) ∧ Good s p) ∨ (n.f0 = 4 ∧ ∃ nd m, nodeF s k (x : Int) (many : Int) (D : Int) = .ok (nd, (s.size : Int), m, (D : Int)))
theorem node_end {s : ByteArray} {k : Nat} {many D : Int} : nodeF s (k + 1) (s.size : Int) many D = .error ((s.size : Int), 140) := by
  rw [nodeF]
  simp only
  rw [blanks_end, now_fin, if_neg (by decide)]
theorem parts_fin {NF : NodeFn} {s : ByteArray} {kind last x : Int} {many deep : Int} {keys : List ByteArray} {L : List S32} {m d : Int} (h0 : nowF s (blanksF s (x + 1)) ≠ last)
    (h : partsL NF s kind (s.size + 1) [] [] (blanksF s (x + 1)) many deep = .ok (keys, L, (s.size : Int), m, d)) : partsF NF s kind last x many deep = .error ((s.size : Int), 140) := by
  unfold partsF
  rw [if_neg h0, h]
  simp only
  rw [wordF, if_pos rfl]
/-- The elements of a list that is cut. -/
theorem list_cut (s : ByteArray) (D k : Nat) (hk : k + (D + 1) = 61) : ∀ (l : List S32), l ≠ [] → (∀ n ∈ l, NCut n ∧ Reads [] n) → mayL l ((D : Int) + 1 + 1) = true → ∀ (f x : Nat) (q r : List Int) (L0 : List S32) (many : Nat),
    (bytesOf s).drop x = q → q ++ r = cm (spcL [] l) ++ [93] → r ≠ [] → x ≤ s.size → many + cntL l ≤ 4000 → s.size + 1 ≤ f + x →
    (∃ p, partsL (nodeF s k) s 6 f [] L0 (x : Int) (many : Int) ((D : Int) + 1) = .error (p, 140) ∧ Good s p) ∨ (∃ L m d, partsL (nodeF s k) s 6 f [] L0 (x : Int) (many : Int) ((D : Int) + 1) = .ok ([], L, (s.size : Int), m, d))
  | [], h0, _, _, _, _, _, _, _, _, _, _, _, _, _, _ => absurd rfl h0
  | n :: l, _, hR, hm, 0, x, _, _, _, _, _, _, _, hx, _, hf => by omega
  | n :: l, _, hR, hm, f + 1, x, q, r, L0, many, hd, hq, hr, hx, hc, hf => by
    rw [mayL, Bool.and_eq_true] at hm
    rw [cntL] at hc
    obtain ⟨hN, hRd⟩ := hR n (by simp)
    obtain ⟨t, ht, hcase⟩ := cm_cons (spc [] n) (spcL [] l) [93]
    have hq1 : q ++ r = spc [] n ++ t := by rw [hq, spcL, List.nil_append, List.append_nil, ht]
    rw [partsL, stepK, if_neg (by decide)]
    simp only
    rcases cut_app hq1 with ⟨r', hr', h1⟩ | ⟨q', h1, h2⟩
    · rcases hN s x q r' many (D + 1) k hd h1 hr' hx (by rw [Int.natCast_add]; exact hm.1) hk (by omega) with ⟨p, h3, h4⟩ | ⟨_, nd, m, h3⟩
      · rw [Int.natCast_add, show ((1 : Nat) : Int) = 1 from rfl] at h3
        rw [h3]
        exact Or.inl ⟨p, rfl, h4⟩
      · rw [Int.natCast_add, show ((1 : Nat) : Int) = 1 from rfl] at h3
        rw [h3]
        simp only
        rw [blanks_end, now_fin, if_neg (by decide)]
        exact Or.inr ⟨_, _, _, rfl⟩
    · have hnt : ND q' := by
        intro c hc
        rcases q' with _ | ⟨d, q'⟩
        · cases hc
        · cases hc
          rcases hcase with ⟨_, rfl⟩ | ⟨_, rfl⟩
          · obtain ⟨rfl, _⟩ := List.cons.inj h2
            decide
          · obtain ⟨rfl, _⟩ := List.cons.inj h2
            decide
      obtain ⟨z, hz, hz2, hz3⟩ := hRd s x [] q' many (D + 1) k (by rw [List.nil_append, hd, h1]) AB.nil hnt hx (by rw [Int.natCast_add]; exact hm.1) hk (by omega)
      rw [Int.natCast_add, show ((1 : Nat) : Int) = 1 from rfl] at hz
      rw [hz]
      simp only
      rcases q' with _ | ⟨d, q'⟩
      · obtain rfl := dr_end hz2 hz3
        rw [blanks_end, now_fin, if_neg (by decide)]
        exact Or.inr ⟨_, _, _, rfl⟩
      · rcases hcase with ⟨_, rfl⟩ | ⟨hl, rfl⟩
        · obtain ⟨rfl, h3⟩ := List.cons.inj h2
          exact absurd (List.append_eq_nil_iff.1 h3).2 hr
        · obtain ⟨rfl, h3⟩ := List.cons.inj h2
          have h6 := dr_step (p := [44]) hz2
          have h7 := dr_lt hz2
          have hgo : x < z := by
            have e1 := dr_len hz2 hz3
            have e2 := dr_len hd hx
            obtain ⟨c0, r0, hb0⟩ := spc_head (b := []) hm.1
            rw [h1, hb0.eq] at e2
            simp only [List.length_append, List.length_cons] at e1 e2
            omega
          rw [blanks_no hz2 (by decide), now_at hz2, if_pos rfl]
          have := list_cut s D k hk l (by rintro rfl; exact hl rfl) (fun m hm => hR m (by simp [hm])) hm.2 f (z + 1) q' r (L0 ++ [n]) (many + cnt n) h6 h3 hr (by omega) (by omega) (by omega)
          rwa [Int.natCast_add, show ((1 : Nat) : Int) = 1 from rfl] at this
/-- The fields of an object that is cut. -/
theorem obj_cut (s : ByteArray) (D k : Nat) (hk : k + (D + 1) = 61) : ∀ (l : List S32), l ≠ [] → (∀ n ∈ l, NCut n ∧ Reads [] n) → mayL l ((D : Int) + 1 + 1) = true → ∀ (f x : Nat) (q r : List Int) (ks had : List ByteArray) (L0 : List S32) (many : Nat),
    (bytesOf s).drop x = q → q ++ r = cm (List.zipWith (kv []) ks (spcL [] l)) ++ [125] → r ≠ [] → x ≤ s.size → many + cntL l ≤ 4000 → s.size + 1 ≤ f + x → ks.length = l.length → (had ++ ks).Nodup → (∀ q ∈ ks, badF q = false) →
    (∃ p, partsL (nodeF s k) s 7 f had L0 (x : Int) (many : Int) ((D : Int) + 1) = .error (p, 140) ∧ Good s p) ∨ (∃ keys L m d, partsL (nodeF s k) s 7 f had L0 (x : Int) (many : Int) ((D : Int) + 1) = .ok (keys, L, (s.size : Int), m, d))
  | [], h0, _, _, _, _, _, _, _, _, _, _, _, _, _, _, _, _, _, _, _ => absurd rfl h0
  | n :: l, _, hR, hm, 0, x, _, _, _, _, _, _, _, _, _, hx, _, hf, _, _, _ => by omega
  | n :: l, _, hR, hm, f + 1, x, q, r, [], had, L0, many, hd, hq, hr, hx, hc, hf, hl, hnd, hbd => by simp at hl
  | n :: l, _, hR, hm, f + 1, x, q, r, ky :: ks, had, L0, many, hd, hq, hr, hx, hc, hf, hlen, hnd, hbd => by
    rw [mayL, Bool.and_eq_true] at hm
    rw [cntL] at hc
    rw [List.length_cons, List.length_cons] at hlen
    obtain ⟨hN, hRd⟩ := hR n (by simp)
    obtain ⟨t, ht, hcase⟩ := cm_cons (kv [] ky (spc [] n)) (List.zipWith (kv []) ks (spcL [] l)) [125]
    have hq1 : q ++ r = (quoL ky ++ [58]) ++ (spc [] n ++ t) := by
      rw [hq, spcL, List.nil_append, List.append_nil, List.zipWith_cons_cons, ht, kv]
      simp [List.append_assoc]
    have hkn : ky ∉ had := fun hq => by
      rw [List.nodup_append] at hnd
      exact hnd.2.2 ky hq ky (by simp) rfl
    rw [partsL, stepK, if_pos rfl]
    rcases cut_app hq1 with ⟨r', hr', h1⟩ | ⟨q1, h1, hq2⟩
    · obtain ⟨p, h3, h4⟩ := key_cut (had := had) hd h1 hr' hx (hbd ky (by simp))
      rw [h3]
      exact Or.inl ⟨p, rfl, h4⟩
    · obtain ⟨y, hy, hy2, hy3⟩ := key_at (had := had) (pre := []) (b := []) (tail := q1) AB.nil AB.nil (by rw [hd, h1]; simp [List.append_assoc]) (hbd ky (by simp)) hkn hx
      have hxy : x < y := by
        have e1 := dr_len hy2 hy3
        have e2 := dr_len hd hx
        rw [h1] at e2
        simp only [List.length_append, List.length_cons] at e1 e2
        omega
      rw [hy]
      simp only
      rcases cut_app hq2 with ⟨r', hr', h1⟩ | ⟨q', h1, h2⟩
      · rcases hN s y q1 r' many (D + 1) k hy2 h1 hr' hy3 (by rw [Int.natCast_add]; exact hm.1) hk (by omega) with ⟨p, h3, h4⟩ | ⟨_, nd, m, h3⟩
        · rw [Int.natCast_add, show ((1 : Nat) : Int) = 1 from rfl] at h3
          rw [h3]
          exact Or.inl ⟨p, rfl, h4⟩
        · rw [Int.natCast_add, show ((1 : Nat) : Int) = 1 from rfl] at h3
          rw [h3]
          simp only
          rw [blanks_end, now_fin, if_neg (by decide)]
          exact Or.inr ⟨_, _, _, _, rfl⟩
      · have hnt : ND q' := by
          intro c hc
          rcases q' with _ | ⟨d, q'⟩
          · cases hc
          · cases hc
            rcases hcase with ⟨_, rfl⟩ | ⟨_, rfl⟩
            · obtain ⟨rfl, _⟩ := List.cons.inj h2
              decide
            · obtain ⟨rfl, _⟩ := List.cons.inj h2
              decide
        obtain ⟨z, hz, hz2, hz3⟩ := hRd s y [] q' many (D + 1) k (by rw [List.nil_append, hy2, h1]) AB.nil hnt hy3 (by rw [Int.natCast_add]; exact hm.1) hk (by omega)
        rw [Int.natCast_add, show ((1 : Nat) : Int) = 1 from rfl] at hz
        rw [hz]
        simp only
        rcases q' with _ | ⟨d, q'⟩
        · obtain rfl := dr_end hz2 hz3
          rw [blanks_end, now_fin, if_neg (by decide)]
          exact Or.inr ⟨_, _, _, _, rfl⟩
        · rcases hcase with ⟨_, rfl⟩ | ⟨hl, rfl⟩
          · obtain ⟨rfl, h3⟩ := List.cons.inj h2
            exact absurd (List.append_eq_nil_iff.1 h3).2 hr
          · obtain ⟨rfl, h3⟩ := List.cons.inj h2
            have h6 := dr_step (p := [44]) hz2
            have h7 := dr_lt hz2
            have hgo : y ≤ z := by
              have e1 := dr_len hz2 hz3
              have e2 := dr_len hy2 hy3
              rw [h1] at e2
              simp only [List.length_append, List.length_cons] at e1 e2
              omega
            rw [blanks_no hz2 (by decide), now_at hz2, if_pos rfl]
            have := obj_cut s D k hk l (by rintro rfl; cases ks <;> exact hl rfl) (fun m hm => hR m (by simp [hm])) hm.2 f (z + 1) q' r ks (had ++ [ky]) (L0 ++ [n]) (many + cnt n) h6 h3 hr (by omega) (by omega) (by omega) (by omega) (by rwa [List.append_assoc]) (fun r hr => hbd r (by simp [hr]))
            rwa [Int.natCast_add, show ((1 : Nat) : Int) = 1 from rfl] at this
theorem cut_all : ∀ (N : Nat) (n : S32), cnt n ≤ N → NCut n
  | 0, n, h => by
    obtain ⟨k, s, ks, L⟩ := n
    rw [cnt] at h
    omega
  | N + 1, n, hN => by
    intro s x q r many D k hd hq hr hx hm hk hc
    have hD := may_deep hm
    obtain ⟨k, rfl⟩ : ∃ k', k = k' + 1 := ⟨k - 1, by omega⟩
    rcases q with _ | ⟨c, q⟩
    · obtain rfl := dr_end hd hx
      exact Or.inl ⟨_, node_end, Good.fin s⟩
    obtain ⟨c', r', hbg⟩ := spc_head (b := []) hm
    obtain rfl : c = c' := by
      have := hbg.eq.symm.trans hq.symm
      exact (List.cons.inj this).1.symm
    have hcc := hc
    obtain ⟨kd, t, ks, L⟩ := n
    rw [cnt] at hc
    have hB := blanks_no hd hbg.nb
    have hlt := dr_lt hd
    have hd1 : (bytesOf s).drop (x + 1) = q := dr_step (p := [c]) hd
    have e1 : (x : Int) + 1 = ((x + 1 : Nat) : Int) := by omega
    have e2 : (many : Int) + 1 = ((many + 1 : Nat) : Int) := by omega
    have hR : ∀ n ∈ L, NCut n ∧ Reads [] n := fun n hn => ⟨cut_all N n (by have := cnt_mem hn; rw [cnt] at hN; omega), reads_all AB.nil _ n (Nat.le_refl _)⟩
    have go : nodeF s (k + 1) (x : Int) (many : Int) (D : Int) = (match wayF (nodeF s k) s c (x : Int) ((many + 1 : Nat) : Int) ((D : Int) + 1) with
        | .error e => .error e
        | .ok (nd, z, m, d) => .ok (nd, z, m, d - 1)) := by
      rw [nodeF]
      simp only
      rw [hB, now_at hd, if_pos hbg.way, if_neg (by omega), e2]
      rcases wayF (nodeF s k) s c (x : Int) ((many + 1 : Nat) : Int) ((D : Int) + 1) with e | ⟨nd, z, m, d⟩ <;> rfl
    have hk1 : k + (D + 1) = 61 := by omega
    have hcL : many + 1 + cntL L ≤ 4000 := by omega
    rw [mayF] at hm
    simp only [Bool.and_eq_true, decide_eq_true_eq] at hm
    obtain ⟨⟨hi, hdeep⟩, hmL⟩ := hm
    unfold isF at hi
    rw [spc] at hq
    have err : ∀ {p : Int}, wayF (nodeF s k) s c (x : Int) ((many + 1 : Nat) : Int) ((D : Int) + 1) = .error (p, 140) → Good s p → (∃ p, nodeF s (k + 1) (x : Int) (many : Int) (D : Int) = .error (p, 140) ∧ Good s p) := fun h1 h2 => ⟨_, by rw [go, h1], h2⟩
    have leaf : ∀ {w : List Int} {g : Int}, (c :: q) ++ r = w → wayF (nodeF s k) s c (x : Int) ((many + 1 : Nat) : Int) ((D : Int) + 1) = leafF s w g (x : Int) ((many + 1 : Nat) : Int) ((D : Int) + 1) → (∃ p, nodeF s (k + 1) (x : Int) (many : Int) (D : Int) = .error (p, 140) ∧ Good s p) := by
      intro w g h1 h2
      refine err (p := (s.size : Int)) ?_ (Good.fin s)
      rw [h2, leafF, word_cut w x _ r hd h1 hr hx]
    by_cases k123 : kd = 1 ∨ kd = 2 ∨ kd = 3
    · left
      rcases k123 with rfl | rfl | rfl
      · have hq' : (c :: q) ++ r = [110, 117, 108, 108] := hq
        obtain rfl := (List.cons.inj hq').1
        exact leaf hq' rfl
      · have hq' : (c :: q) ++ r = [102, 97, 108, 115, 101] := hq
        obtain rfl := (List.cons.inj hq').1
        exact leaf hq' rfl
      · have hq' : (c :: q) ++ r = [116, 114, 117, 101] := hq
        obtain rfl := (List.cons.inj hq').1
        exact leaf hq' rfl
    · rw [if_neg k123] at hi
      by_cases k4 : kd = 4
      · rw [if_pos k4] at hi hq
        simp only [Bool.and_eq_true, decide_eq_true_eq] at hi
        have hnw : c ≠ 110 ∧ c ≠ 102 ∧ c ≠ 116 ∧ c ≠ 34 ∧ c ≠ 91 ∧ c ≠ 123 := by
          obtain ⟨sg, ds, hb', hs, hdg, h1, _, _⟩ := num_parts hi.2
          rw [hb'] at hq
          rcases hs with rfl | rfl
          · have := (List.cons.inj hq).1
            omega
          · rcases ds with _ | ⟨e, ds⟩
            · cases h1
            · have h2 := hdg e (by simp)
              have h3 : 48 ≤ e ∧ e ≤ 57 := by simpa [isDgt] using h2
              have := (List.cons.inj hq).1
              omega
        have hw : wayF (nodeF s k) s c (x : Int) ((many + 1 : Nat) : Int) ((D : Int) + 1) = numberF s (x : Int) ((many + 1 : Nat) : Int) ((D : Int) + 1) := by
          unfold wayF
          rw [if_neg hnw.1, if_neg hnw.2.1, if_neg hnw.2.2.1, if_neg hnw.2.2.2.1, if_neg hnw.2.2.2.2.1, if_neg hnw.2.2.2.2.2]
        rcases num_cut (many := ((many + 1 : Nat) : Int)) (deep := (D : Int) + 1) hi.2 hd hq (by simp) hx with h1 | ⟨nd, h1⟩
        · exact Or.inl (err (hw.trans h1) (Good.fin s))
        · refine Or.inr ⟨k4, nd, ((many + 1 : Nat) : Int), ?_⟩
          rw [go, hw, h1]
          simp only [Except.ok.injEq, Prod.mk.injEq, true_and]
          omega
      · rw [if_neg k4] at hi hq
        left
        by_cases k5 : kd = 5
        · rw [if_pos k5] at hi hq
          obtain rfl : c = 34 := by
            obtain ⟨u, hu⟩ := quo_head t
            rw [hu] at hq
            exact (List.cons.inj hq).1
          obtain ⟨p, h1, h2⟩ := str_cut hd hq hr hx
          refine err (p := p) ?_ h2
          unfold wayF strN
          rw [if_neg (by decide), if_neg (by decide), if_neg (by decide), if_pos rfl, h1]
        · rw [if_neg k5] at hi hq
          by_cases k6 : kd = 6
          · rw [if_pos k6] at hi hq
            have hq' : (c :: q) ++ r = 91 :: (cm (spcL [] L) ++ [93]) := hq
            obtain ⟨rfl, hq2⟩ := cons_cut hq'
            clear hq'
            have hq' := hq2
            clear hq2
            have hway : ∀ {p : Int}, partsF (nodeF s k) s 6 93 (x : Int) ((many + 1 : Nat) : Int) ((D : Int) + 1) = .error (p, 140) → Good s p → (∃ p, nodeF s (k + 1) (x : Int) (many : Int) (D : Int) = .error (p, 140) ∧ Good s p) := fun h => err h
            have hB1 : blanksF s ((x : Int) + 1) = ((x + 1 : Nat) : Int) ∧ nowF s ((x + 1 : Nat) : Int) ≠ 93 := by
              rw [e1]
              rcases q with _ | ⟨d, q⟩
              · have := dr_end hd1 (by omega)
                rw [this, blanks_end, now_fin]
                exact ⟨rfl, by decide⟩
              · rcases L with _ | ⟨n0, L1⟩
                · have := (List.cons.inj (show d :: (q ++ r) = [93] from hq')).2
                  exact absurd (List.append_eq_nil_iff.1 this).2 hr
                · obtain ⟨c0, r0, hb0⟩ := spc_head (b := []) (n := n0) (d := (D : Int) + 1 + 1) (by rw [mayL, Bool.and_eq_true] at hmL; exact hmL.1)
                  obtain ⟨t', ht', _⟩ := cm_cons (spc [] n0) (spcL [] L1) [93]
                  have h5 : d :: (q ++ r) = c0 :: (r0 ++ t') := by
                    rw [← List.cons_append, hq', spcL, List.nil_append, List.append_nil, ht', hb0.eq]
                    rfl
                  obtain ⟨rfl, _⟩ := List.cons.inj h5
                  exact ⟨blanks_no hd1 hb0.nb, by rw [now_at hd1]; exact hb0.n93⟩
            by_cases hL : L = []
            · subst hL
              obtain rfl : q = [] := by
                have := congrArg List.length hq'
                have h1 : 1 ≤ r.length := List.length_pos_iff.2 hr
                simp only [spcL, cm, List.length_append, List.length_nil, List.length_singleton] at this
                exact List.length_eq_zero_iff.1 (by omega)
              have hx1 := dr_end hd1 (by omega)
              refine hway (p := (s.size : Int)) ?_ (Good.fin s)
              unfold partsF
              rw [hB1.1, if_neg hB1.2, partsL, stepK, if_neg (by decide)]
              simp only
              obtain ⟨k, rfl⟩ : ∃ k', k = k' + 1 := ⟨k - 1, by omega⟩
              rw [hx1, node_end]
            · rcases list_cut s D k hk1 L hL hR hmL (s.size + 1) (x + 1) q r [] (many + 1) hd1 hq' hr (by omega) hcL (by omega) with ⟨p, h1, h2⟩ | ⟨L', m, d, h1⟩
              · refine hway (p := p) ?_ h2
                unfold partsF
                rw [hB1.1, if_neg hB1.2, h1]
              · refine hway (p := (s.size : Int)) (parts_fin (by rw [hB1.1]; exact hB1.2) (by rw [hB1.1]; exact h1)) (Good.fin s)
          · rw [if_neg k6] at hi hq
            by_cases k7 : kd = 7
            · rw [if_pos k7] at hi hq
              simp only [Bool.and_eq_true, decide_eq_true_eq, Bool.not_eq_true'] at hi
              obtain ⟨⟨⟨hi1, hi2⟩, hi3⟩, hi4⟩ := hi
              have hnod := dsz_nodup.1 hi3
              have hbad : ∀ q ∈ ks, badF q = false := fun q hq => by
                have := List.any_eq_false.1 hi4 q hq
                simpa using this
              have hq' : (c :: q) ++ r = 123 :: (cm (List.zipWith (kv []) ks (spcL [] L)) ++ [125]) := hq
              obtain ⟨rfl, hq2⟩ := cons_cut hq'
              clear hq'
              have hq' := hq2
              clear hq2
              have hway : ∀ {p : Int}, partsF (nodeF s k) s 7 125 (x : Int) ((many + 1 : Nat) : Int) ((D : Int) + 1) = .error (p, 140) → Good s p → (∃ p, nodeF s (k + 1) (x : Int) (many : Int) (D : Int) = .error (p, 140) ∧ Good s p) := fun h => err h
              have hB1 : blanksF s ((x : Int) + 1) = ((x + 1 : Nat) : Int) ∧ nowF s ((x + 1 : Nat) : Int) ≠ 125 := by
                rw [e1]
                rcases q with _ | ⟨d, q⟩
                · have := dr_end hd1 (by omega)
                  rw [this, blanks_end, now_fin]
                  exact ⟨rfl, by decide⟩
                · rcases L with _ | ⟨n0, L1⟩
                  · obtain rfl : ks = [] := List.length_eq_zero_iff.1 (by simpa using hi2)
                    have := (List.cons.inj (show d :: (q ++ r) = [125] from hq')).2
                    exact absurd (List.append_eq_nil_iff.1 this).2 hr
                  · rcases ks with _ | ⟨q0, K1⟩
                    · simp at hi2
                    · obtain ⟨r0, hr0⟩ := quo_head q0
                      obtain ⟨t', ht', _⟩ := cm_cons (kv [] q0 (spc [] n0)) (List.zipWith (kv []) K1 (spcL [] L1)) [125]
                      have h5 : d :: (q ++ r) = 34 :: (r0 ++ (58 :: (spc [] n0 ++ t'))) := by
                        rw [← List.cons_append, hq', spcL, List.nil_append, List.append_nil, List.zipWith_cons_cons, ht', kv, hr0]
                        simp [List.append_assoc]
                      obtain ⟨rfl, _⟩ := List.cons.inj h5
                      exact ⟨blanks_no hd1 (by decide), by rw [now_at hd1]; decide⟩
              by_cases hL : L = []
              · subst hL
                obtain rfl : ks = [] := List.length_eq_zero_iff.1 (by simpa using hi2)
                obtain rfl : q = [] := by
                  have := congrArg List.length hq'
                  have h1 : 1 ≤ r.length := List.length_pos_iff.2 hr
                  simp only [spcL, cm, List.zipWith_nil_left, List.length_append, List.length_nil, List.length_singleton] at this
                  exact List.length_eq_zero_iff.1 (by omega)
                have hx1 := dr_end hd1 (by omega)
                refine hway (p := (s.size : Int)) ?_ (Good.fin s)
                unfold partsF
                rw [hB1.1, if_neg hB1.2, partsL, stepK, if_pos rfl]
                have : keyF s [] ((x + 1 : Nat) : Int) = .error (s.size : Int) := by
                  unfold keyF strF
                  rw [hx1, blanks_end, wordF, if_pos rfl]
                rw [this]
              · rcases obj_cut s D k hk1 L hL hR hmL (s.size + 1) (x + 1) q r ks [] [] (many + 1) hd1 hq' hr (by omega) hcL (by omega) hi2 (by simpa using hnod) hbad with ⟨p, h1, h2⟩ | ⟨K', L', m, d, h1⟩
                · refine hway (p := p) ?_ h2
                  unfold partsF
                  rw [hB1.1, if_neg hB1.2, h1]
                · refine hway (p := (s.size : Int)) (parts_fin (by rw [hB1.1]; exact hB1.2) (by rw [hB1.1]; exact h1)) (Good.fin s)
            · rw [if_neg k7] at hi
              cases hi
/-- A node's text that is cut is none. -/
theorem parse_cut {n : S32} {s : ByteArray} {q r : List Int} (hs : bytesOf s = q) (hq : q ++ r = spc [] n) (hr : r ≠ []) (hm : mayF n 1 = true) (hc : cnt n ≤ 4000) (hz : s.size ≤ 1048576) (h4 : n.f0 ≠ 4) : ∃ p, parseF s = (z32, p, 140) ∧ Good s p := by
  rcases cut_all (cnt n) n (Nat.le_refl _) s 0 q r 0 0 61 hs hq hr (Nat.zero_le _) hm rfl (by omega) with ⟨p, h1, h2⟩ | ⟨h, _⟩
  · refine ⟨p, ?_, h2⟩
    have h3 : nodeF s 61 0 0 0 = .error (p, 140) := h1
    unfold parseF
    rw [if_neg (by omega), h3]
  · exact absurd h h4
end Go.Proofs.YtodnggilomanbaaDoor.Pure
