/-
  What is read may be, and its text is not much longer; where a text is wrong: no walk.
-/
import Derived.Test.YtodnggilomanbaaGreatDoorPlainNode
namespace Go.Proofs.YtodnggilomanbaaGreatDoor.Pure
open Go.RowKit Go.Lib Go.Proofs.YtodnggilomanbaaGreatDoor.PAll Go.Proofs.YtodnggilomanbaaGreatDoorW.PrintWords Go.Proofs.YtodnggilomanbaaGreatDoorW.PrintLast Go.Proofs.YtodnggilomanbaaGreatDoorW.PrintMore Go.Proofs.YtodnggilomanbaaGreatDoor.Hand
set_option linter.unusedVariables false
set_option linter.unusedSimpArgs false

/-! ### strings -/
theorem size_ext (s : ByteArray) (n : Nat) : (s.extract n s.size).size = s.size - n := by
  rw [← bytesOf_length, bytes_ext, List.length_drop, bytesOf_length]
theorem spell_len {t : ByteArray} (h : (spell t).2.2 = true) (h1 : 1 ≤ t.size) : (spell t).1.length + (spell t).2.1.size ≤ t.size := by
  unfold spell at h ⊢
  split
  · simp only [size_ext, List.length_singleton]
    omega
  · split
    · rename_i hu
      have h4 : 4 ≤ (t.extract 1 t.size).size := by
        have h2 := hu.2
        unfold halfF at h2
        split at h2
        · omega
        · omega
      rw [size_ext] at h4
      simp only
      obtain ⟨n, hn⟩ : ∃ n, halfF (t.extract 1 t.size) = n := ⟨_, rfl⟩
      rw [hn]
      have hr : ∀ r : Int, (runeB r).1.length ≤ 4 := by
        intro r
        unfold runeB
        split
        · exact (encodeRuneZ_length r).2
        · simp
      have hp : (pairF (t.extract 5 t.size) n).2.size ≤ t.size - 5 := by
        unfold pairF
        split
        · have e := size_ext (t.extract 5 t.size) 6
          rw [size_ext] at e
          show ((t.extract 5 t.size).extract 6 (t.extract 5 t.size).size).size ≤ _
          rw [size_ext, size_ext]
          omega
        · simp only [size_ext]
          omega
      have := hr (pairF (t.extract 5 t.size) n).1
      omega
    · simp
      exact Nat.zero_le _
theorem decS_len : ∀ (n : Nat) (t : ByteArray) (out o : List Int), decS n t out = .ok o → o.length ≤ out.length + t.size
  | 0, t, out, o, h => by
    rw [decS] at h
    cases h
    omega
  | n + 1, t, out, o, h => by
    rw [decS] at h
    split at h
    · cases h
      omega
    · rename_i h0
      split at h
      · cases h
      · split at h
        · have := decS_len n _ _ _ h
          rw [size_ext, List.length_append, List.length_singleton] at this
          omega
        · split at h
          · cases h
          · rename_i h1
            split at h
            · rename_i hs
              have h3 := spell_len hs (by rw [size_ext]; omega)
              have := decS_len n _ _ _ h
              rw [List.length_append] at this
              rw [size_ext] at h3
              omega
            · cases h
theorem escB_len (c : Int) : (escB c).length ≤ 6 := by
  unfold escB
  split
  · simp
  · split <;> simp
theorem quo_len (t : ByteArray) : (quoL t).length ≤ 2 + 6 * t.size := by
  have key : ∀ l : List Int, (l.flatMap escB).length ≤ 6 * l.length := by
    intro l
    induction l with
    | nil => simp
    | cons c l ih =>
      have := escB_len c
      rw [List.flatMap_cons, List.length_append, List.length_cons]
      omega
  have := key (bytesOf t)
  unfold quoL
  rw [bytesOf_length] at this
  simp only [List.length_cons, List.length_append, List.length_nil]
  omega
theorem size_sl (s : ByteArray) (a b : Nat) (h : b ≤ s.size) : (s.extract a b).size = b - a := by
  rw [← bytesOf_length, bytesOf_sl, List.length_drop, List.length_take, bytesOf_length]
  omega
theorem strNums_size (l : List Int) : (strOfNums l).size = l.length := by
  show ((l.map fun x => UInt8.ofNat x.toNat).toArray).size = _
  simp
theorem str_sound {s : ByteArray} {x y : Int} {o : ByteArray} (h0 : 0 ≤ x) (h1 : x ≤ (s.size : Int)) (h : strF s x = .ok (o, y)) : badF o = false ∧ ((quoL o).length : Int) ≤ 6 * (y - x) := by
  unfold strF at h
  rw [word1 h1] at h
  split at h
  · cases h
  · rename_i z hz
    split at hz
    · rename_i hx
      cases hz
      have hE := endF_le (s := s) (y := x + 1) (by omega) (by omega) rfl
      split at h
      · cases h
      · cases h
      · rename_i out hout
        split at h
        · rename_i hlt
          split at h
          · rename_i hv
            cases h
            refine ⟨?_, ?_⟩
            · unfold badF
              rw [u8s_str, hv]
              rfl
            · have h2 := decS_len _ _ _ _ hout
              have hm : minE s (endF s (x + 1)) = endF s (x + 1) := by unfold minE; omega
              rw [hm, size_sl _ _ _ (by omega)] at h2
              have h3 := quo_len (strOfNums out)
              rw [strNums_size] at h3
              simp only [List.length_nil] at h2
              omega
          · cases h
        · cases h
    · cases hz
/-! ### numbers -/
theorem list_bytes {s : ByteArray} {l : List Int} (h : bytesOf s = l) : s.toList = u8s l := by rw [ByteArray.toList_eq, ← u8s_bytes, h]
theorem num_mk {t : ByteArray} {sg ds : List Int} (h : bytesOf t = sg ++ ds) (hs : sg = [45] ∨ sg = []) (hd : ∀ c ∈ ds, isDgt c = true) (h1 : 1 ≤ ds.length) (h40 : ds.length ≤ 40) (h48 : ds.length = 1 ∨ ds.head? ≠ some 48) : isNumF t = true := by
  have key : ∀ u : ByteArray, bytesOf u = ds → numOk u = true := by
    intro u hu
    have hl := bytesOf_length u
    rw [hu] at hl
    have e : ndg ds = ds.length := by
      have := ndg_app (r := []) hd (fun c hc => by cases hc)
      rwa [List.append_nil] at this
    unfold numOk
    rw [hu, e]
    simp only [Bool.and_eq_true, Bool.or_eq_true, decide_eq_true_eq]
    refine ⟨by omega, h1, h40, ?_⟩
    rcases h48 with h48 | h48
    · exact Or.inl h48
    · right
      intro hb
      rcases ds with _ | ⟨c, ds⟩
      · cases h1
      · rw [bt_head hu] at hb
        subst hb
        exact h48 rfl
  have hz := size_of h
  unfold isNumF Hand.trimF
  have h01 : bytesOf (t.extract 0 1) = (sg ++ ds).take 1 := by rw [bytesOf_sl, h]; rfl
  rcases hs with rfl | rfl
  · rw [if_pos ⟨by rw [List.length_append] at hz; simp at hz; omega, by rw [list_bytes h01]; rfl⟩]
    exact key _ (ext1 (r := ds) h)
  · rcases ds with _ | ⟨c, ds⟩
    · cases h1
    · have hc := hd c (by simp)
      rw [if_neg]
      · exact key _ h
      · rintro ⟨_, e⟩
        rw [list_bytes h01] at e
        have e2 : UInt8.ofNat c.toNat = 45 := by
          have : u8s [c] = [45] := e
          exact (List.cons.inj this).1
        have hc2 : 48 ≤ c ∧ c ≤ 57 := by simpa [isDgt] using hc
        have e3 := congrArg UInt8.toNat e2
        rw [toNat_of (by omega) (by omega)] at e3
        have : c.toNat = 45 := e3
        omega
theorem now_dr {s : ByteArray} {p : Nat} (h : p < s.size) : (bytesOf s).drop p = nowF s (p : Int) :: (bytesOf s).drop (p + 1) := by
  have := drop_bt s (y := (p : Int)) (by omega) (by omega)
  rw [Int.toNat_natCast] at this
  unfold nowF
  rw [if_neg (by omega)]
  exact this
theorem num_sound {s : ByteArray} {x many deep z m d : Int} {nd : S28} (h0 : 0 ≤ x) (h1 : x ≤ (s.size : Int)) (h : numberF s x many deep = .ok (nd, z, m, d)) : ∃ t : ByteArray, nd = ⟨4, t, [], []⟩ ∧ isNumF t = true ∧ (t.size : Int) = z - x ∧ m = many ∧ d = deep := by
  obtain ⟨x, rfl⟩ := Int.eq_ofNat_of_zero_le h0
  unfold numberF at h
  have hb := numAt_bd h0 h1
  obtain ⟨p, hp⟩ := Int.eq_ofNat_of_zero_le (show 0 ≤ numAt s (x : Int) by omega)
  rw [hp] at h hb
  rw [Int.toNat_natCast] at h
  split at h
  · cases h
  · rename_i hn
    split at h
    · cases h
    · rename_i h40
      have hl := ndg_le ((bytesOf s).drop p)
      rw [List.length_drop, bytesOf_length] at hl
      have hps : p < s.size := by omega
      obtain ⟨sg, hs, hx⟩ : ∃ sg : List Int, (sg = [45] ∨ sg = []) ∧ (bytesOf s).drop x = sg ++ (bytesOf s).drop p ∧ p = x + sg.length := by
        unfold numAt at hp
        split at hp
        · rename_i h45
          have hxs := nowF_lt h1 (by decide) h45
          have := now_dr (s := s) (p := x) (by omega)
          rw [h45] at this
          have e : p = x + 1 := by omega
          rw [e]
          exact ⟨[45], Or.inl rfl, this, rfl⟩
        · have e : p = x := by omega
          rw [e]
          exact ⟨[], Or.inr rfl, rfl, rfl⟩
      obtain ⟨hx, hpx⟩ := hx
      have hnd := now_dr (s := s) hps
      obtain ⟨ds, q1, q2, q3, q4, q5⟩ : ∃ ds : List Int, (∀ c ∈ ds, isDgt c = true) ∧ 1 ≤ ds.length ∧ ds.length ≤ 40 ∧ (ds.length = 1 ∨ ds.head? ≠ some 48) ∧ numLen s (p : Int) = (ds.length : Int) ∧ ∃ r, (bytesOf s).drop p = ds ++ r := by
        by_cases h48 : nowF s (p : Int) = 48
        · rw [h48] at hnd
          exact ⟨[48], by intro c hc; simp at hc; subst hc; decide, Nat.le_refl _, by decide, Or.inl rfl, by unfold numLen; rw [if_pos h48]; rfl, _, hnd⟩
        · refine ⟨((bytesOf s).drop p).takeWhile isDgt, fun c hc => List.all_eq_true.1 List.all_takeWhile c hc, by show 1 ≤ ndg _; omega, by show ndg _ ≤ 40; omega, Or.inr ?_, by unfold numLen; rw [if_neg h48, Int.toNat_natCast]; rfl, _, (List.takeWhile_append_dropWhile).symm⟩
          intro hh
          rw [hnd, List.takeWhile_cons] at hh
          split at hh
          · simp at hh
            exact h48 hh
          · cases hh
      obtain ⟨q5, r, q6⟩ := q5
      have hlen := congrArg List.length q6
      rw [List.length_drop, bytesOf_length, List.length_append] at hlen
      have hE : bytesOf (s.extract x (p + ds.length)) = sg ++ ds := by
        rw [bytesOf_sl, List.drop_take, hx, q6, ← List.append_assoc, show p + ds.length - x = (sg ++ ds).length by rw [List.length_append]; omega, List.take_left]
      rw [q5] at h
      have e2 : ((p : Int) + (ds.length : Int)) = ((p + ds.length : Nat) : Int) := by omega
      rw [e2, Int.toNat_natCast, Int.toNat_natCast] at h
      cases h
      refine ⟨_, rfl, num_mk hE hs q1 q2 q3 q4, ?_, rfl, rfl⟩
      have := size_of hE
      rw [List.length_append] at this
      rw [this]
      omega
/-! ### nodes -/
theorem cm_le (x : List Int) (l : List (List Int)) : (cm (x :: l)).length ≤ x.length + 1 + (cm l).length := by
  cases l with
  | nil => simp [cm]
  | cons y l => simp only [cm, List.length_append, List.length_cons]; omega
theorem mayL_app : ∀ (a b : List S28) (d : Int), mayL a d = true → mayL b d = true → mayL (a ++ b) d = true
  | [], b, d, _, h => h
  | x :: a, b, d, h, k => by
    rw [mayL, Bool.and_eq_true] at h
    rw [List.cons_append, mayL, h.1, mayL_app a b d h.2 k]
    rfl
structure Snd (n : S28) (D : Int) (x z many many' : Int) : Prop where
  may : mayF n (D + 1) = true
  cn : many' = many + (cnt n : Int)
  ln : ((spc [] n).length : Int) ≤ 6 * (z - x)
/-- A reader of nodes whose nodes may be. -/
def Sounds (NF : NodeFn) (s : ByteArray) (D : Int) : Prop := ∀ x many nd z many' deep', 0 ≤ x → x ≤ (s.size : Int) → 0 ≤ many → many ≤ 4000 → NF x many D = .ok (nd, z, many', deep') → Snd nd D x z many many'
theorem list_sound {NF : NodeFn} {s : ByteArray} {D : Int} (hG : Goes NF s D) (hS : Sounds NF s D) : ∀ (n : Nat) {keys keys' : List ByteArray} {L L' : List S28} {x z many many' deep' : Int}, 0 ≤ x → x ≤ (s.size : Int) → 0 ≤ many → many ≤ 4000 → partsL NF s 6 n keys L x many D = .ok (keys', L', z, many', deep') →
    keys' = keys ∧ ∃ l, L' = L ++ l ∧ mayL l (D + 1) = true ∧ many' = many + (cntL l : Int) ∧ ((cm (spcL [] l)).length : Int) ≤ 6 * (z - x)
  | 0, _, _, _, _, _, _, _, _, _, _, _, _, _, h => by rw [partsL] at h; cases h
  | n + 1, keys, keys', L, L', x, z, many, many', deep', h0, h1, hm0, hm1, h => by
    rw [partsL, stepK, if_neg (by decide)] at h
    simp only at h
    split at h
    · cases h
    · rename_i nd v m d hv
      obtain ⟨h3, h31, h32, h33, rfl⟩ := hG _ _ _ _ _ _ h0 h1 hm0 hm1 hv
      obtain ⟨g1, g2, g3⟩ := hS _ _ _ _ _ _ h0 h1 hm0 hm1 hv
      have h4 := blanksF_bd (s := s) (x := v) (by omega) h31
      have one : mayL [nd] (d + 1) = true := by rw [mayL, g1, mayL]; rfl
      split at h
      · rename_i h44
        have h5 := nowF_lt h4.2 (by decide) h44
        obtain ⟨rfl, l, rfl, e2, e3, e4⟩ := list_sound hG hS n (by omega) (by omega) h32 h33 h
        refine ⟨rfl, nd :: l, by simp, ?_, ?_, ?_⟩
        · rw [mayL, g1, e2]; rfl
        · rw [cntL]; omega
        · have := cm_le ([] ++ (spc [] nd ++ [])) (spcL [] l)
          rw [spcL]
          simp only [List.nil_append, List.append_nil] at this ⊢
          omega
      · cases h
        refine ⟨rfl, [nd], rfl, one, by simp only [cntL]; omega, ?_⟩
        rw [spcL, spcL]
        simp only [cm, List.nil_append, List.append_nil]
        omega
theorem key_sound {s : ByteArray} {had : List ByteArray} {x y : Int} {k : ByteArray} (h0 : 0 ≤ x) (h1 : x ≤ (s.size : Int)) (h : keyF s had x = .ok (k, y)) : badF k = false ∧ k ∉ had ∧ ((quoL k).length : Int) + 1 ≤ 6 * (y - x) := by
  unfold keyF at h
  have hb := blanksF_bd h0 h1
  split at h
  · cases h
  · rename_i k' v hv
    obtain ⟨g1, g2⟩ := str_sound (by omega) hb.2 hv
    have g3 := strF_bd (by omega) hb.2 hv
    split at h
    · cases h
    · rename_i hc
      have hb2 := blanksF_bd (s := s) (x := v) (by omega) g3.2
      split at h
      · cases h
      · rename_i z hz
        have := wordF_len hz
        simp only [List.length_cons, List.length_nil] at this
        cases h
        exact ⟨g1, fun hm => hc ((Lib.containsS_iff _ _).2 hm), by omega⟩
theorem obj_sound {NF : NodeFn} {s : ByteArray} {D : Int} (hG : Goes NF s D) (hS : Sounds NF s D) : ∀ (n : Nat) {keys keys' : List ByteArray} {L L' : List S28} {x z many many' deep' : Int}, 0 ≤ x → x ≤ (s.size : Int) → 0 ≤ many → many ≤ 4000 → partsL NF s 7 n keys L x many D = .ok (keys', L', z, many', deep') → keys.Nodup →
    ∃ ks l, keys' = keys ++ ks ∧ L' = L ++ l ∧ ks.length = l.length ∧ (keys ++ ks).Nodup ∧ (∀ q ∈ ks, badF q = false) ∧ mayL l (D + 1) = true ∧ many' = many + (cntL l : Int) ∧ ((cm (List.zipWith (kv []) ks (spcL [] l))).length : Int) ≤ 6 * (z - x)
  | 0, _, _, _, _, _, _, _, _, _, _, _, _, _, h, _ => by rw [partsL] at h; cases h
  | n + 1, keys, keys', L, L', x, z, many, many', deep', h0, h1, hm0, hm1, h, hnd => by
    rw [partsL] at h
    split at h
    · cases h
    · rename_i k1 y hk
      rw [stepK, if_pos rfl] at hk
      split at hk
      · rename_i k w hw
        cases hk
        obtain ⟨a1, a2, a3⟩ := key_sound h0 h1 hw
        have a4 := keyF_bd h0 h1 hw
        split at h
        · cases h
        · rename_i nd v m d hv
          obtain ⟨h3, h31, h32, h33, rfl⟩ := hG _ _ _ _ _ _ (by omega) a4.2 hm0 hm1 hv
          obtain ⟨g1, g2, g3⟩ := hS _ _ _ _ _ _ (by omega) a4.2 hm0 hm1 hv
          have h4 := blanksF_bd (s := s) (x := v) (by omega) h31
          have hnd2 : (keys ++ [k]).Nodup := by
            rw [List.nodup_append]
            exact ⟨hnd, by simp, fun a ha b hb => by simp at hb; subst hb; rintro rfl; exact a2 ha⟩
          have one : mayL [nd] (d + 1) = true := by rw [mayL, g1, mayL]; rfl
          split at h
          · rename_i h44
            have h5 := nowF_lt h4.2 (by decide) h44
            obtain ⟨ks, l, rfl, rfl, e1, e2, e3, e4, e5, e6⟩ := obj_sound hG hS n (by omega) (by omega) h32 h33 h hnd2
            refine ⟨k :: ks, nd :: l, by simp, by simp, by simp [e1], by simpa using e2, ?_, ?_, ?_, ?_⟩
            · intro q hq
              rcases List.mem_cons.1 hq with rfl | hq
              · exact a1
              · exact e3 q hq
            · rw [mayL, g1, e4]; rfl
            · rw [cntL]; omega
            · have := cm_le (kv [] k ([] ++ (spc [] nd ++ []))) (List.zipWith (kv []) ks (spcL [] l))
              rw [spcL, List.zipWith_cons_cons]
              have e : (kv [] k ([] ++ (spc [] nd ++ []))).length = (quoL k).length + 1 + (spc [] nd).length := by
                unfold kv
                simp only [List.nil_append, List.append_nil, List.length_append, List.length_cons]
                omega
              rw [e] at this
              omega
          · cases h
            refine ⟨[k], [nd], rfl, rfl, rfl, hnd2, by intro q hq; simp at hq; subst hq; exact a1, one, by simp only [cntL]; omega, ?_⟩
            rw [spcL, spcL, List.zipWith_cons_cons, List.zipWith_nil_left]
            have e : (cm [kv [] k ([] ++ (spc [] nd ++ []))]).length = (quoL k).length + 1 + (spc [] nd).length := by
              unfold kv
              simp only [cm, List.nil_append, List.append_nil, List.length_append, List.length_cons]
              omega
            rw [e]
            omega
      · cases hk
theorem empty_is : (⟨#[]⟩ : ByteArray).toList.isEmpty = true := by rw [ByteArray.toList_eq]; rfl
theorem leaf_sound {s : ByteArray} {t : List Int} {kind x many deep z m d : Int} {nd : S28} (hk : kind = 1 ∨ kind = 2 ∨ kind = 3) (ht : wordL kind = t) (hd : deep ≤ 60) (h : leafF s t kind x many deep = .ok (nd, z, m, d)) : mayF nd deep = true ∧ m + 1 = many + (cnt nd : Int) ∧ ((spc [] nd).length : Int) ≤ 6 * (z - x) := by
  unfold leafF at h
  split at h
  · rename_i y hy
    have h2 := wordF_len hy
    cases h
    refine ⟨?_, by simp only [cnt, cntL]; omega, ?_⟩
    · rw [mayF, mayL]
      unfold isF
      rw [if_pos hk, empty_is]
      simp [hd]
    · rw [spc, if_neg (by omega), if_neg (by omega), if_neg (by omega), if_neg (by omega), ht]
      omega
  · cases h
theorem node_sound (s : ByteArray) : ∀ (k : Nat) (D : Int), 0 ≤ D → Sounds (nodeF s k) s D
  | 0, D, _ => fun x many nd z m d h0 h1 hm0 hm1 h => by rw [nodeF] at h; cases h
  | k + 1, D, hD => fun x many nd z m d h0 h1 hm0 hm1 h => by
    rw [nodeF] at h
    have hb := blanksF_bd h0 h1
    simp only at h
    split at h
    · rename_i hw
      split at h
      · cases h
      · rename_i hlim
        split at h
        · cases h
        · rename_i nd' z' m' d' hv
          have hG := nodeF_goes s k (D + 1)
          have hS := node_sound s k (D + 1) (by omega)
          have y0 : 0 ≤ blanksF s x := by omega
          have y1 := hb.2
          have d60 : D + 1 ≤ 60 := by omega
          have key : mayF nd' (D + 1) = true ∧ m' = many + (cnt nd' : Int) ∧ ((spc [] nd').length : Int) ≤ 6 * (z' - blanksF s x) := by
            unfold wayF at hv
            split at hv
            · have hl := leaf_sound (Or.inl rfl) rfl d60 hv
              have := leafF_goes (by simp) y0 y1 hv
              exact ⟨hl.1, by omega, hl.2.2⟩
            · split at hv
              · have hl := leaf_sound (Or.inr (Or.inl rfl)) rfl d60 hv
                have := leafF_goes (by simp) y0 y1 hv
                exact ⟨hl.1, by omega, hl.2.2⟩
              · split at hv
                · have hl := leaf_sound (Or.inr (Or.inr rfl)) rfl d60 hv
                  have := leafF_goes (by simp) y0 y1 hv
                  exact ⟨hl.1, by omega, hl.2.2⟩
                · split at hv
                  · unfold strN at hv
                    split at hv
                    · rename_i o y hy
                      obtain ⟨g1, g2⟩ := str_sound y0 y1 hy
                      cases hv
                      refine ⟨?_, by simp only [cnt, cntL]; omega, ?_⟩
                      · rw [mayF, mayL]
                        unfold isF
                        rw [if_neg (by decide), if_neg (by decide), if_pos rfl, g1]
                        simp [d60]
                      · rw [spc, if_neg (by decide), if_pos rfl]
                        omega
                    · cases hv
                  · split at hv
                    · rename_i hc
                      have hy := nowF_lt y1 (by decide) hc
                      unfold partsF at hv
                      have hb1 := blanksF_bd (s := s) (x := blanksF s x + 1) (by omega) (by omega)
                      split at hv
                      · cases hv
                        refine ⟨?_, by simp only [cnt, cntL]; omega, ?_⟩
                        · rw [mayF, mayL]
                          unfold isF
                          rw [if_neg (by decide), if_neg (by decide), if_neg (by decide), if_pos rfl, empty_is]
                          simp [d60]
                        · rw [spc, if_neg (by decide), if_neg (by decide), if_pos rfl]
                          simp only [spcL, cm, List.nil_append, List.length_cons, List.length_nil]
                          omega
                      · split at hv
                        · cases hv
                        · rename_i keys L v m1 d1 hp
                          obtain ⟨rfl, l, rfl, e2, e3, e4⟩ := list_sound hG hS _ (by omega) hb1.2 (by omega) (by omega) hp
                          split at hv
                          · rename_i v' hw'
                            have h3 := wordF_len hw'
                            simp only [List.length_cons, List.length_nil] at h3
                            cases hv
                            refine ⟨?_, by simp only [cnt, List.nil_append]; omega, ?_⟩
                            · rw [mayF]
                              unfold isF
                              rw [if_neg (by decide), if_neg (by decide), if_neg (by decide), if_pos rfl, empty_is, e2]
                              simp [d60]
                            · rw [spc, if_neg (by decide), if_neg (by decide), if_pos rfl]
                              simp only [List.nil_append, List.length_cons, List.length_append, List.length_nil]
                              omega
                          · cases hv
                    · split at hv
                      · rename_i hc
                        have hy := nowF_lt y1 (by decide) hc
                        unfold partsF at hv
                        have hb1 := blanksF_bd (s := s) (x := blanksF s x + 1) (by omega) (by omega)
                        split at hv
                        · cases hv
                          refine ⟨?_, by simp only [cnt, cntL]; omega, ?_⟩
                          · rw [mayF, mayL]
                            unfold isF
                            rw [if_neg (by decide), if_neg (by decide), if_neg (by decide), if_neg (by decide), if_pos rfl, empty_is]
                            simp [d60, dsz_nodup.2 List.nodup_nil]
                          · rw [spc, if_neg (by decide), if_neg (by decide), if_neg (by decide), if_pos rfl]
                            simp only [spcL, cm, List.zipWith_nil_left, List.nil_append, List.length_cons, List.length_nil]
                            omega
                        · split at hv
                          · cases hv
                          · rename_i keys L v m1 d1 hp
                            obtain ⟨ks, l, rfl, rfl, e1, e2, e3, e4, e5, e6⟩ := obj_sound hG hS _ (by omega) hb1.2 (by omega) (by omega) hp List.nodup_nil
                            split at hv
                            · rename_i v' hw'
                              have h3 := wordF_len hw'
                              simp only [List.length_cons, List.length_nil] at h3
                              cases hv
                              refine ⟨?_, by simp only [cnt, List.nil_append]; omega, ?_⟩
                              · rw [mayF]
                                unfold isF
                                have hbad : keys.any badF = false := by
                                  rw [List.any_eq_false]
                                  intro q hq
                                  rw [e3 q hq]
                                  decide
                                try rw [List.nil_append] at e2
                                rw [if_neg (by decide), if_neg (by decide), if_neg (by decide), if_neg (by decide), if_pos rfl, empty_is, e4, hbad]
                                simp [d60, e1, dsz_nodup.2 e2]
                              · rw [spc, if_neg (by decide), if_neg (by decide), if_neg (by decide), if_pos rfl]
                                simp only [List.nil_append, List.length_cons, List.length_append, List.length_nil]
                                omega
                            · cases hv
                      · obtain ⟨t, rfl, g1, g2, g3, g4⟩ := num_sound y0 y1 hv
                        refine ⟨?_, by simp only [cnt, cntL]; omega, ?_⟩
                        · rw [mayF, mayL]
                          unfold isF
                          rw [if_neg (by decide), if_pos rfl, g1]
                          simp [d60]
                        · have := numberF_goes y0 y1 hv
                          rw [spc, if_pos rfl, bytesOf_length]
                          omega
          cases h
          exact ⟨key.1, key.2.1, by omega⟩
    · cases h
end Go.Proofs.YtodnggilomanbaaGreatDoor.Pure
