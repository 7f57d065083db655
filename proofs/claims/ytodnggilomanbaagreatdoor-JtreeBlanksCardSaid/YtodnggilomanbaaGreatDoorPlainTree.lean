/-
  Check, Text and Same of a node that may be; where a text is wrong: no walk.
-/
import Derived.Test.YtodnggilomanbaaGreatDoorPlainSound
import Derived.Test.YtodnggilomanbaaGreatDoorGX
namespace Go.Proofs.YtodnggilomanbaaGreatDoor.Pure
open Go.RowKit Go.Lib Go.Proofs.YtodnggilomanbaaGreatDoor.PAll Go.Proofs.YtodnggilomanbaaGreatDoorW.PrintWords Go.Proofs.YtodnggilomanbaaGreatDoorW.PrintLast Go.Proofs.YtodnggilomanbaaGreatDoorW.PrintMore Go.Proofs.YtodnggilomanbaaGreatDoor.Hand
set_option linter.unusedVariables false
set_option linter.unusedSimpArgs false

/-! ### the text -/
theorem by_quo (t : ByteArray) : bytesOf (quoF t) = quoL t := by
  have key : ∀ l : List Int, (∀ c ∈ l, 0 ≤ c ∧ c < 256) → bytesOf (strOfNums l) = l := by
    intro l h
    have e : bytesOf (strOfNums l) = (u8s l).map (fun x => (x.toNat : Int)) := rfl
    rw [e, u8s, List.map_map]
    refine (List.map_congr_left (g := id) fun x hx => ?_).trans (List.map_id l)
    have := h x hx
    show ((UInt8.ofNat x.toNat).toNat : Int) = x
    rw [toNat_of this.1 (by omega)]
    omega
  have hexd : ∀ d : Int, 0 ≤ d → d < 16 → 0 ≤ hexC d ∧ hexC d < 256 := by
    intro d h0 h1
    unfold hexC
    split <;> omega
  refine key _ ?_
  intro c hc
  unfold quoL at hc
  rcases List.mem_cons.1 hc with rfl | hc
  · omega
  · rcases List.mem_append.1 hc with hc | hc
    · obtain ⟨b, hb, hc⟩ := List.mem_flatMap.1 hc
      have hb2 := bytes_bd t b hb
      unfold escB at hc
      split at hc
      · rcases List.mem_cons.1 hc with rfl | hc
        · omega
        · have e := List.mem_singleton.1 hc
          subst e
          unfold shV
          split
          · omega
          · split
            · omega
            · split
              · omega
              · split
                · omega
                · split
                  · omega
                  · split
                    · omega
                    · split <;> omega
      · split at hc
        · have h1 := hexd (b / 16) (by omega) (by omega)
          have h2 := hexd (b % 16) (by omega) (by omega)
          simp only [List.mem_cons, List.not_mem_nil, or_false] at hc
          omega
        · have e := List.mem_singleton.1 hc
          subst e
          exact hb2
    · have e := List.mem_singleton.1 hc
      subst e
      omega
theorem by_join (xs : List ByteArray) : bytesOf (joinB xs) = cm (xs.map bytesOf) := by
  have tail : ∀ r : List ByteArray, (Lib.joinTail [44] (r.map (·.data.toList))).map (fun x => (x.toNat : Int)) = (r.map (fun y => 44 :: bytesOf y)).flatten := by
    intro r
    induction r with
    | nil => rfl
    | cons x r ih =>
      simp only [Lib.joinTail, List.map_cons, List.flatten_cons, List.map_append] at ih ⊢
      rw [ih]
      rfl
  have cmt : ∀ (x : List Int) (r : List ByteArray), cm (x :: r.map bytesOf) = x ++ (r.map (fun y => 44 :: bytesOf y)).flatten := by
    intro x r
    induction r generalizing x with
    | nil => simp [cm]
    | cons y r ih =>
      rw [List.map_cons, cm, ih, List.map_cons, List.flatten_cons]
      rfl
  rcases xs with _ | ⟨x, r⟩
  · rfl
  · show ((Lib.join ((x :: r).map (·.data.toList)) [44])).map (fun x => (x.toNat : Int)) = _
    rw [List.map_cons, Lib.join_cons, List.map_append, tail, List.map_cons, cmt]
    rfl
theorem wri_spc : ∀ (N : Nat) (n : S28), cnt n ≤ N → bytesOf (wriF n) = spc [] n
  | 0, n, h => by
    obtain ⟨k, s, ks, L⟩ := n
    rw [cnt] at h
    omega
  | N + 1, n, h => by
    obtain ⟨k, s, ks, L⟩ := n
    rw [cnt] at h
    have hl : ∀ l : List S28, cntL l ≤ N → (wriL l).map bytesOf = spcL [] l := by
      intro l
      induction l with
      | nil => intro _; rfl
      | cons x l ih =>
        intro hx
        rw [cntL] at hx
        rw [wriL, spcL, List.map_cons, ih (by omega), wri_spc N x (by omega)]
        simp
    have hz : ∀ (q : List ByteArray) (l : List ByteArray), (List.zipWith qk q l).map bytesOf = List.zipWith (kv []) q (l.map bytesOf) := by
      intro q
      induction q with
      | nil => intro l; rfl
      | cons x q ih =>
        intro l
        cases l with
        | nil => rfl
        | cons y l =>
          rw [List.zipWith_cons_cons, List.map_cons, ih, List.map_cons, List.zipWith_cons_cons]
          congr 1
          unfold qk kv
          rw [by_app, by_app, by_quo]
          simp [bytesOf]
    rw [wriF, spc]
    by_cases k4 : k = 4
    · rw [if_pos k4, if_pos k4]
    · rw [if_neg k4, if_neg k4]
      by_cases k5 : k = 5
      · rw [if_pos k5, if_pos k5, by_quo]
      · rw [if_neg k5, if_neg k5]
        by_cases k6 : k = 6
        · rw [if_pos k6, if_pos k6, by_app, by_app, by_join, hl L (by omega)]
          simp [bytesOf]
        · rw [if_neg k6, if_neg k6]
          by_cases k7 : k = 7
          · rw [if_pos k7, if_pos k7, by_app, by_app, by_join, hz, hl L (by omega)]
            simp [bytesOf]
          · rw [if_neg k7, if_neg k7]
            unfold wordB wordL
            split
            · rfl
            · split
              · rfl
              · split <;> rfl
theorem wri_bytes (n : S28) : bytesOf (wriF n) = spc [] n := wri_spc _ n (Nat.le_refl _)
theorem wri_size (n : S28) : (wriF n).size = (spc [] n).length := size_of (wri_bytes n)
/-! ### the same -/
theorem same_refl : ∀ (N : Nat) (n : S28), cnt n ≤ N → sameF n n = true
  | 0, n, h => by
    obtain ⟨k, s, ks, L⟩ := n
    rw [cnt] at h
    omega
  | N + 1, n, h => by
    obtain ⟨k, s, ks, L⟩ := n
    rw [cnt] at h
    have hl : ∀ l : List S28, cntL l ≤ N → sameL l l = true := by
      intro l
      induction l with
      | nil => intro _; rfl
      | cons x l ih =>
        intro hx
        rw [cntL] at hx
        rw [sameL, ih (by omega), same_refl N x (by omega)]
        rfl
    rw [sameF, hl L (by omega)]
    simp
/-! ### sizes -/
theorem cm_mem : ∀ {P : List (List Int)} {y : List Int}, y ∈ P → y.length ≤ (cm P).length
  | [x], y, h => by
    have := List.mem_singleton.1 h
    subst this
    exact Nat.le_refl _
  | x :: z :: l, y, h => by
    rcases List.mem_cons.1 h with rfl | h
    · simp only [cm, List.length_append]; omega
    · have := cm_mem h
      rw [cm, List.length_append]
      rw [List.length_cons]
      omega
theorem quo_ge (t : ByteArray) : t.size ≤ (quoL t).length := by
  have key : ∀ l : List Int, l.length ≤ (l.flatMap escB).length := by
    intro l
    induction l with
    | nil => simp
    | cons c l ih =>
      have : 1 ≤ (escB c).length := by
        unfold escB
        split
        · simp
        · split <;> simp
      rw [List.flatMap_cons, List.length_append, List.length_cons]
      omega
  have := key (bytesOf t)
  rw [bytesOf_length] at this
  unfold quoL
  simp only [List.length_cons, List.length_append, List.length_nil]
  omega
theorem len_cntL : ∀ l : List S28, l.length ≤ cntL l
  | [] => Nat.le_refl _
  | x :: l => by
    have h1 : 1 ≤ cnt x := by
      obtain ⟨k, s, ks, L⟩ := x
      rw [cnt]; omega
    have := len_cntL l
    rw [cntL, List.length_cons]
    omega
theorem zip_mem : ∀ {ks : List ByteArray} {P : List (List Int)}, ks.length = P.length → (∀ q ∈ ks, q.size ≤ (cm (List.zipWith (kv []) ks P)).length) ∧ (∀ y ∈ P, y.length ≤ (cm (List.zipWith (kv []) ks P)).length)
  | ks, P, h => by
    have e : ∀ (q : ByteArray) (y : List Int), (kv [] q y).length = (quoL q).length + 1 + y.length := by
      intro q y
      unfold kv
      simp only [List.nil_append, List.length_append, List.length_cons]
      omega
    refine ⟨fun q hq => ?_, fun y hy => ?_⟩
    · obtain ⟨i, hi, rfl⟩ := List.getElem_of_mem hq
      have hm : (kv [] ks[i] (P[i]'(by omega))) ∈ List.zipWith (kv []) ks P := by
        have : (List.zipWith (kv []) ks P)[i]'(by rw [List.length_zipWith]; omega) = kv [] ks[i] (P[i]'(by omega)) := by simp
        rw [← this]
        exact List.getElem_mem _
      have := cm_mem hm
      rw [e] at this
      have := quo_ge ks[i]
      omega
    · obtain ⟨i, hi, rfl⟩ := List.getElem_of_mem hy
      have hm : (kv [] (ks[i]'(by omega)) P[i]) ∈ List.zipWith (kv []) ks P := by
        have : (List.zipWith (kv []) ks P)[i]'(by rw [List.length_zipWith]; omega) = kv [] (ks[i]'(by omega)) P[i] := by simp
        rw [← this]
        exact List.getElem_mem _
      have := cm_mem hm
      rw [e] at this
      omega
theorem spcL_mem {l : List S28} {x : S28} (h : x ∈ l) : spc [] x ∈ spcL [] l := by
  induction l with
  | nil => cases h
  | cons y l ih =>
    rw [spcL]
    rcases List.mem_cons.1 h with rfl | h
    · simp
    · exact List.mem_cons_of_mem _ (ih h)
theorem mayL_mem : ∀ {l : List S28} {x : S28} {d : Int}, mayL l d = true → x ∈ l → mayF x d = true
  | y :: l, x, d, h, hx => by
    rw [mayL, Bool.and_eq_true] at h
    rcases List.mem_cons.1 hx with rfl | hx
    · exact h.1
    · exact mayL_mem h.2 hx
theorem ok_all : ∀ (N : Nat) (n : S28) (d : Int), cnt n ≤ N → mayF n d = true → cnt n ≤ 1099511627776 → (spc [] n).length ≤ 1073741824 → okM n = true ∧ okN n = true
  | 0, n, d, h, _, _, _ => by
    obtain ⟨k, s, ks, L⟩ := n
    rw [cnt] at h
    omega
  | N + 1, n, d, h, hm, hc, hs => by
    obtain ⟨k, s, ks, L⟩ := n
    rw [cnt] at h hc
    rw [mayF] at hm
    simp only [Bool.and_eq_true, decide_eq_true_eq] at hm
    obtain ⟨⟨hi, _⟩, hmL⟩ := hm
    have hll := len_cntL L
    have main : s.size ≤ 1073741824 ∧ (∀ q ∈ ks, q.size ≤ 1073741824) ∧ ks.length ≤ 1099511627776 ∧ (∀ x ∈ L, (spc [] x).length ≤ 1073741824) := by
      have hse : ∀ {b : Bool}, (s.toList.isEmpty = true) → s.size ≤ 1073741824 := fun h => by
        rw [ByteArray.toList_eq] at h
        have h2 := List.isEmpty_iff.1 h
        have : s.size = s.data.toList.length := rfl
        rw [this, h2]
        simp
      rw [spc] at hs
      unfold isF at hi
      by_cases k123 : k = 1 ∨ k = 2 ∨ k = 3
      · rw [if_pos k123] at hi
        simp only [Bool.and_eq_true, decide_eq_true_eq] at hi
        obtain rfl : ks = [] := List.length_eq_zero_iff.1 hi.1.1
        obtain rfl : L = [] := List.length_eq_zero_iff.1 hi.1.2
        exact ⟨hse (b := true) hi.2, fun q hq => (by cases hq), by simp, fun q hq => (by cases hq)⟩
      · rw [if_neg k123] at hi
        by_cases k4 : k = 4
        · rw [if_pos k4] at hi hs
          simp only [Bool.and_eq_true, decide_eq_true_eq] at hi
          obtain rfl : ks = [] := List.length_eq_zero_iff.1 hi.1.1
          obtain rfl : L = [] := List.length_eq_zero_iff.1 hi.1.2
          rw [bytesOf_length] at hs
          exact ⟨hs, fun q hq => (by cases hq), by simp, fun q hq => (by cases hq)⟩
        · rw [if_neg k4] at hi hs
          by_cases k5 : k = 5
          · rw [if_pos k5] at hi hs
            simp only [Bool.and_eq_true, decide_eq_true_eq] at hi
            obtain rfl : ks = [] := List.length_eq_zero_iff.1 hi.1.1
            obtain rfl : L = [] := List.length_eq_zero_iff.1 hi.1.2
            have := quo_ge s
            exact ⟨by omega, fun q hq => (by cases hq), by simp, fun q hq => (by cases hq)⟩
          · rw [if_neg k5] at hi hs
            by_cases k6 : k = 6
            · rw [if_pos k6] at hi hs
              simp only [Bool.and_eq_true, decide_eq_true_eq] at hi
              obtain rfl : ks = [] := List.length_eq_zero_iff.1 hi.2
              refine ⟨hse (b := true) hi.1, fun q hq => (by cases hq), by simp, fun x hx => ?_⟩
              have := cm_mem (spcL_mem hx)
              simp only [List.nil_append, List.length_cons, List.length_append, List.length_nil] at hs
              omega
            · rw [if_neg k6] at hi hs
              by_cases k7 : k = 7
              · rw [if_pos k7] at hi hs
                simp only [Bool.and_eq_true, decide_eq_true_eq] at hi
                obtain ⟨⟨⟨hi1, hi2⟩, hi3⟩, hi4⟩ := hi
                have hzl : ks.length = (spcL [] L).length := by rw [spcL_len]; exact hi2
                obtain ⟨z1, z2⟩ := zip_mem hzl
                simp only [List.nil_append, List.length_cons, List.length_append, List.length_nil] at hs
                exact ⟨hse (b := true) hi1, fun q hq => by have := z1 q hq; omega, by omega, fun x hx => by have := z2 _ (spcL_mem hx); omega⟩
              · rw [if_neg k7] at hi
                cases hi
    obtain ⟨m1, m2, m3, m4⟩ := main
    have hch : ∀ l : List S28, (∀ x ∈ l, x ∈ L) → okML l = true ∧ okL l = true := by
      intro l
      induction l with
      | nil => intro _; exact ⟨rfl, rfl⟩
      | cons x l ih =>
        intro hx
        have hxL := hx x (by simp)
        have h1 := cnt_mem hxL
        obtain ⟨a1, a2⟩ := ok_all N x (d + 1) (by omega) (mayL_mem hmL hxL) (by omega) (m4 x hxL)
        obtain ⟨b1, b2⟩ := ih (fun y hy => hx y (by simp [hy]))
        exact ⟨by rw [okML, a1, b1]; rfl, by rw [okL, a2, b2]; rfl⟩
    obtain ⟨c1, c2⟩ := hch L (fun _ h => h)
    have hall : ks.all (fun x => decide (x.size ≤ 1073741824)) = true := List.all_eq_true.2 fun q hq => decide_eq_true (m2 q hq)
    refine ⟨?_, ?_⟩
    · rw [okM, c1, hall]
      simp only [Bool.and_eq_true, decide_eq_true_eq]
      exact ⟨⟨⟨⟨m1, trivial⟩, m3⟩, by omega⟩, trivial⟩
    · rw [okN, c2]
      simp only [Bool.and_eq_true, decide_eq_true_eq]
      exact ⟨⟨m3, by omega⟩, trivial⟩
/-! ### Count, Check, Text -/
theorem count_at : ∀ (N : Nat) (n : S28), cnt n ≤ N → cnt n ≤ 1099511627776 → ∃ k, jtree_Count.f k n.f0 n.f1 n.f2 n.f3 = some (cnt n : Int)
  | 0, n, h, _ => by
    obtain ⟨k, s, ks, L⟩ := n
    rw [cnt] at h
    omega
  | N + 1, n, h, hc => by
    obtain ⟨kd, s, ks, L⟩ := n
    rw [cnt] at h hc
    have lp : ∀ (m i : Nat), i + m = L.length → ∀ many : Nat, many + cntL (L.drop i) ≤ 1099511627777 → ∃ k, jtree_Count.l0 k (many : Int) L (L.length : Int) (i : Int) = some ((many + cntL (L.drop i) : Nat) : Int) := by
      intro m
      induction m with
      | zero =>
        intro i hi many hm
        rw [List.drop_eq_nil_iff.2 (by omega), cntL]
        exact ⟨1, by rw [jtree_Count.l0, if_neg (by omega)]; rfl⟩
      | succ m ih =>
        intro i hi many hm
        have hlt : i < L.length := by omega
        have hd := List.drop_eq_getElem_cons hlt
        rw [hd, cntL] at hm ⊢
        have hmem : L[i] ∈ L := List.getElem_mem hlt
        have hcm := cnt_mem hmem
        obtain ⟨k1, h1⟩ := count_at N L[i] (by omega) (by omega)
        obtain ⟨k2, h2⟩ := ih (i + 1) (by omega) (many + cnt L[i]) (by omega)
        have hr : rd_T28 L (i : Int) = L[i] := by
          unfold rd_T28
          rw [Int.toNat_natCast, List.getD_eq_getElem?_getD, List.getElem?_eq_getElem hlt]
          rfl
        have h1' := leO_le (f := fun k => jtree_Count.f k L[i].f0 L[i].f1 L[i].f2 L[i].f3) (fun k => (jtree_Count.mono_l k).1 _ _ _ _) (Nat.le_max_left k1 k2) _ h1
        have h2' := leO_le (f := fun k => jtree_Count.l0 k ((many + cnt L[i] : Nat) : Int) L (L.length : Int) ((i + 1 : Nat) : Int)) (fun k => (jtree_Count.mono_l k).2 _ _ _ _) (Nat.le_max_right k1 k2) _ h2
        refine ⟨max k1 k2 + 1, ?_⟩
        have w1 : wrap64 ((many : Int) + (cnt L[i] : Int)) = ((many + cnt L[i] : Nat) : Int) := by unfold wrap64; omega
        have hL2 : L.length ≤ 1099511627776 := by have := len_cntL L; omega
        have w2 : wrap64 ((i : Int) + 1) = ((i + 1 : Nat) : Int) := by unfold wrap64; omega
        rw [jtree_Count.l0, if_pos (by omega), if_pos (by omega), if_pos (by omega), hr, h1', Option.bind_some, w1, w2, h2', Nat.add_assoc]
    obtain ⟨k, hk⟩ := lp L.length 0 (by omega) 1 (by rw [List.drop_zero]; omega)
    refine ⟨k + 1, ?_⟩
    rw [jtree_Count.f]
    have e : ((0 : Nat) : Int) = 0 := rfl
    have e1 : ((1 : Nat) : Int) = 1 := rfl
    rw [e, e1] at hk
    simp only
    rw [hk, List.drop_zero, cnt, Nat.add_comm]
theorem count_all (n : S28) (h : cnt n ≤ 1099511627776) : ∃ k0, ∀ k, k0 ≤ k → jtree_Count.f k n.f0 n.f1 n.f2 n.f3 = some (cnt n : Int) := by
  obtain ⟨k0, h0⟩ := count_at _ n (Nat.le_refl _) h
  exact ⟨k0, fun k hk => leO_le (f := fun k => jtree_Count.f k n.f0 n.f1 n.f2 n.f3) (fun k => (jtree_Count.mono_l k).1 _ _ _ _) hk _ h0⟩
/-- Check and Text of a node that may be. -/
theorem text_at {n : S28} (hm : mayF n 1 = true) (hc : cnt n ≤ 4000) (hs : (spc [] n).length ≤ 1073741824) : ∃ k0, ∀ k, k0 ≤ k → jtree_Check.f k n.f0 n.f1 n.f2 n.f3 = some 0 ∧ jtree_Text.f k n.f0 n.f1 n.f2 n.f3 = some (wriF n, 0) := by
  obtain ⟨k0, h0⟩ := count_all n (by omega)
  obtain ⟨o1, o2⟩ := ok_all _ n 1 (Nat.le_refl _) hm (by omega) hs
  refine ⟨k0, fun k hk => ?_⟩
  have hsz := wri_size n
  obtain ⟨a, b, c, d⟩ := n
  have h1 : jtree_Count.f k a b c d = some (cnt ⟨a, b, c, d⟩ : Int) := h0 k hk
  have hck : jtree_Check.f k a b c d = some 0 := by
    unfold jtree_Check.f jtree_may.f
    rw [h1, Option.bind_some, if_neg (by omega), if_pos ⟨o1, by decide, by decide⟩, Option.bind_some, hm, if_pos rfl]
  refine ⟨hck, ?_⟩
  show jtree_Text.f k a b c d = _
  unfold jtree_Text.f jtree_written.f
  rw [hck, Option.bind_some, if_pos rfl, if_pos ⟨hm, o1, by omega⟩, Option.bind_some]
/-! ### where a text is wrong -/
theorem word_err {s : ByteArray} : ∀ {t : List Int} {x p : Int}, 0 ≤ x → x ≤ (s.size : Int) → wordF s t x = .error p → 0 ≤ p ∧ p ≤ (s.size : Int)
  | [], x, p, _, _, h => by rw [wordF] at h; cases h
  | c :: t, x, p, h0, h1, h => by
    rw [wordF] at h
    split at h
    · cases h
      exact ⟨h0, h1⟩
    · split at h
      · exact word_err (by omega) (by omega) h
      · cases h
        exact ⟨h0, h1⟩
theorem str_err {s : ByteArray} {x p : Int} (h0 : 0 ≤ x) (h1 : x ≤ (s.size : Int)) (h : strF s x = .error p) : 0 ≤ p ∧ p ≤ (s.size : Int) := by
  unfold strF at h
  split at h
  · rename_i q hq
    cases h
    exact word_err h0 h1 hq
  · split at h
    · cases h; omega
    · cases h; omega
    · split at h
      · split at h
        · cases h
        · cases h; omega
      · cases h; omega
theorem key_err {s : ByteArray} {had : List ByteArray} {x p : Int} (h0 : 0 ≤ x) (h1 : x ≤ (s.size : Int)) (h : keyF s had x = .error p) : 0 ≤ p ∧ p ≤ (s.size : Int) := by
  unfold keyF at h
  have hb := blanksF_bd h0 h1
  split at h
  · rename_i q hq
    cases h
    exact str_err (by omega) hb.2 hq
  · rename_i k v hv
    have g3 := strF_bd (by omega) hb.2 hv
    have hb2 := blanksF_bd (s := s) (x := v) (by omega) g3.2
    split at h
    · cases h; omega
    · split at h
      · rename_i q hq
        cases h
        exact word_err (by omega) hb2.2 hq
      · cases h
/-- A reader that fails within the text, with a number of its own. -/
def Fails (NF : NodeFn) (s : ByteArray) (D : Int) : Prop := ∀ x many p c, 0 ≤ x → x ≤ (s.size : Int) → 0 ≤ many → many ≤ 4000 → NF x many D = .error (p, c) → (0 ≤ p ∧ p ≤ (s.size : Int)) ∧ (c = 140 ∨ c = 5)
theorem partsL_err {NF : NodeFn} {s : ByteArray} {D : Int} (hG : Goes NF s D) (hF : Fails NF s D) {kind : Int} : ∀ (n : Nat) {keys : List ByteArray} {L : List S28} {x many p c : Int}, 0 ≤ x → x ≤ (s.size : Int) → (s.size : Int) - x < n → 0 ≤ many → many ≤ 4000 → partsL NF s kind n keys L x many D = .error (p, c) → (0 ≤ p ∧ p ≤ (s.size : Int)) ∧ (c = 140 ∨ c = 5)
  | 0, _, _, x, _, _, _, h0, h1, hn, _, _, _ => by omega
  | n + 1, keys, L, x, many, p, c, h0, h1, hn, hm0, hm1, h => by
    rw [partsL] at h
    split at h
    · rename_i q hq
      cases h
      unfold stepK at hq
      split at hq
      · split at hq
        · cases hq
        · rename_i q' hq'
          cases hq
          exact ⟨key_err h0 h1 hq', Or.inl rfl⟩
      · cases hq
    · rename_i k y hk
      have h2 := stepK_bd h0 h1 hk
      split at h
      · rename_i e he
        cases h
        exact hF _ _ _ _ (by omega) h2.2 hm0 hm1 he
      · rename_i nd v m d hv
        obtain ⟨h3, h31, h32, h33, rfl⟩ := hG _ _ _ _ _ _ (by omega) h2.2 hm0 hm1 hv
        have h4 := blanksF_bd (s := s) (x := v) (by omega) h31
        split at h
        · rename_i h44
          have h5 := nowF_lt h4.2 (by decide) h44
          exact partsL_err hG hF n (by omega) (by omega) (by omega) h32 h33 h
        · cases h
theorem parts_err {NF : NodeFn} {s : ByteArray} {D : Int} (hG : Goes NF s D) (hF : Fails NF s D) {kind last x many p c : Int} (h0 : 0 ≤ x) (h1 : x < (s.size : Int)) (hm0 : 0 ≤ many) (hm1 : many ≤ 4000) (h : partsF NF s kind last x many D = .error (p, c)) : (0 ≤ p ∧ p ≤ (s.size : Int)) ∧ (c = 140 ∨ c = 5) := by
  unfold partsF at h
  have hb := blanksF_bd (s := s) (x := x + 1) (by omega) (by omega)
  split at h
  · cases h
  · split at h
    · rename_i e he
      cases h
      exact partsL_err hG hF _ (by omega) hb.2 (by omega) hm0 hm1 he
    · rename_i keys L v m d hv
      obtain ⟨h2, h21, h22⟩ := partsL_bd hG _ (by omega) hb.2 hm0 hm1 hv
      split at h
      · cases h
      · rename_i q hq
        cases h
        exact ⟨word_err (by omega) h21 hq, Or.inl rfl⟩
theorem leaf_err {s : ByteArray} {t : List Int} {kind x many deep p c : Int} (h0 : 0 ≤ x) (h1 : x ≤ (s.size : Int)) (h : leafF s t kind x many deep = .error (p, c)) : (0 ≤ p ∧ p ≤ (s.size : Int)) ∧ (c = 140 ∨ c = 5) := by
  unfold leafF at h
  split at h
  · cases h
  · rename_i q hq
    cases h
    exact ⟨word_err h0 h1 hq, Or.inl rfl⟩
theorem node_err (s : ByteArray) : ∀ (k : Nat) (D : Int), D ≤ 60 → (k : Int) + D = 61 → Fails (nodeF s k) s D
  | 0, D, h, hk => by omega
  | k + 1, D, hD, hk => fun x many p c h0 h1 hm0 hm1 h => by
    rw [nodeF] at h
    have hb := blanksF_bd h0 h1
    simp only at h
    split at h
    · split at h
      · cases h
        exact ⟨⟨by omega, hb.2⟩, Or.inr rfl⟩
      · rename_i hlim
        have y0 : 0 ≤ blanksF s x := by omega
        have y1 := hb.2
        have hG := nodeF_goes s k (D + 1)
        have hF := node_err s k (D + 1) (by omega) (by omega)
        split at h
        · rename_i e hv
          cases h
          unfold wayF at hv
          split at hv
          · exact leaf_err y0 y1 hv
          · split at hv
            · exact leaf_err y0 y1 hv
            · split at hv
              · exact leaf_err y0 y1 hv
              · split at hv
                · unfold strN at hv
                  split at hv
                  · cases hv
                  · rename_i q hq
                    cases hv
                    exact ⟨str_err y0 y1 hq, Or.inl rfl⟩
                · split at hv
                  · rename_i hc
                    exact parts_err hG hF y0 (nowF_lt y1 (by decide) hc) (by omega) (by omega) hv
                  · split at hv
                    · rename_i hc
                      exact parts_err hG hF y0 (nowF_lt y1 (by decide) hc) (by omega) (by omega) hv
                    · have hn := numAt_bd y0 y1
                      unfold numberF at hv
                      split at hv
                      · cases hv
                        exact ⟨⟨by omega, hn.2.1⟩, Or.inl rfl⟩
                      · split at hv
                        · cases hv
                          exact ⟨⟨y0, y1⟩, Or.inl rfl⟩
                        · cases hv
        · cases h
    · cases h
      exact ⟨⟨by omega, hb.2⟩, Or.inl rfl⟩
/-- What Parse answers. -/
theorem parse_cases (s : ByteArray) (hz : s.size ≤ 1048576) : (∃ n, parseF s = (n, 0, 0) ∧ mayF n 1 = true ∧ cnt n ≤ 4000 ∧ (spc [] n).length ≤ 6 * s.size) ∨ (∃ p c, parseF s = (z28, p, c) ∧ (0 ≤ p ∧ p ≤ (s.size : Int)) ∧ (c = 140 ∨ c = 5)) := by
  unfold parseF
  rw [if_neg (by omega)]
  split
  · rename_i p c h
    exact Or.inr ⟨p, c, rfl, node_err s 61 0 (by decide) (by decide) 0 0 p c (Int.le_refl _) (by omega) (Int.le_refl _) (by decide) h⟩
  · rename_i n x m d h
    have hg := nodeF_goes s 61 0 0 0 n x m d (Int.le_refl _) (by omega) (Int.le_refl _) (by decide) h
    have hs := node_sound s 61 0 (Int.le_refl _) 0 0 n x m d (Int.le_refl _) (by omega) (Int.le_refl _) (by decide) h
    have hb := blanksF_bd (s := s) (x := x) (by omega) hg.2.1
    split
    · rename_i hlt
      exact Or.inr ⟨_, _, rfl, ⟨by omega, hb.2⟩, Or.inl rfl⟩
    · have hl := hs.ln
      have hc := hs.cn
      exact Or.inl ⟨n, rfl, hs.may, by omega, by omega⟩
/-- A node that may be, of a text that is short enough, is read of its text. -/
theorem parse_text {n : S28} (hm : mayF n 1 = true) (hc : cnt n ≤ 4000) (hs : (spc [] n).length ≤ 1048576) : parseF (wriF n) = (n, 0, 0) :=
  parse_spc (b := []) (pre := []) (post := []) AB.nil AB.nil AB.nil (by rw [wri_bytes, List.nil_append, List.append_nil]) hm hc (by rw [wri_size]; exact hs)
end Go.Proofs.YtodnggilomanbaaGreatDoor.Pure
