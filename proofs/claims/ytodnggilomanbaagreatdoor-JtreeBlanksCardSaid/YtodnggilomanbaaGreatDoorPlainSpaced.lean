/-
  A node's text with blanks, as the law writes it: no walk.
-/
import Derived.Test.YtodnggilomanbaaGreatDoorGP
import Derived.Test.YtodnggilomanbaaGreatDoorPureBack
namespace Go.Proofs.YtodnggilomanbaaGreatDoor.Pure
open Go.RowKit Go.Lib Go.Proofs.YtodnggilomanbaaGreatDoor.PAll Go.Proofs.YtodnggilomanbaaGreatDoorW.PrintWords Go.Proofs.YtodnggilomanbaaGreatDoorW.PrintLast Go.Proofs.YtodnggilomanbaaGreatDoorW.PrintMore Go.Proofs.YtodnggilomanbaaGreatDoor.Hand
set_option linter.unusedVariables false
set_option linter.unusedSimpArgs false

theorem mayL_mk : ∀ (l : List S28) (d : Int), (∀ x ∈ l, mayF x d = true) → mayL l d = true
  | [], _, _ => rfl
  | x :: l, d, h => by rw [mayL, h x (by simp), mayL_mk l d (fun y hy => h y (by simp [hy]))]; rfl
theorem may_less : ∀ (N : Nat) (n : S28) (d d' : Int), cnt n ≤ N → mayF n d = true → d' ≤ d → mayF n d' = true
  | 0, n, d, d', h, _, _ => by
    obtain ⟨k, s, ks, L⟩ := n
    rw [cnt] at h
    omega
  | N + 1, n, d, d', h, hm, hd => by
    obtain ⟨k, s, ks, L⟩ := n
    rw [cnt] at h
    rw [mayF] at hm ⊢
    simp only [Bool.and_eq_true, decide_eq_true_eq] at hm ⊢
    refine ⟨⟨hm.1.1, by omega⟩, mayL_mk L _ fun x hx => ?_⟩
    exact may_less N x (d + 1) (d' + 1) (by have := cnt_mem hx; omega) (mayL_mem hm.2 hx) (by omega)
theorem spc_leaf {n : S28} (b : List Int) (h : n.f0 < 6) : spc b n = spc [] n := by
  obtain ⟨k, s, ks, L⟩ := n
  have h : k < 6 := h
  rw [spc, spc, if_neg (show ¬ k = 6 by omega), if_neg (show ¬ k = 7 by omega), if_neg (show ¬ k = 6 by omega), if_neg (show ¬ k = 7 by omega)]
def tailsL (P : List (List Int)) : List Int := P.flatMap fun x => 44 :: x
theorem cm_tails : ∀ (x : List Int) (P : List (List Int)), cm (x :: P) = x ++ tailsL P
  | x, [] => by simp [cm, tailsL]
  | x, y :: P => by rw [cm, cm_tails y P]; simp [tailsL]
def restL (P : List (List Int)) (i : Nat) : List Int := if i = 0 then cm P else tailsL (P.drop i)
def sepL (i : Nat) : List Int := if i = 0 then [] else [44]
theorem rest_at (P : List (List Int)) (i : Nat) (h : i < P.length) : restL P i = sepL i ++ (P[i] ++ restL P (i + 1)) := by
  unfold restL sepL
  rw [if_neg (Nat.succ_ne_zero i)]
  by_cases h0 : i = 0
  · subst h0
    rw [if_pos rfl, if_pos rfl]
    cases P with
    | nil => cases h
    | cons x P => rw [cm_tails]; rfl
  · rw [if_neg h0, if_neg h0]
    unfold tailsL
    rw [List.drop_eq_getElem_cons h, List.flatMap_cons]
    rfl
theorem rest_end (P : List (List Int)) : restL P P.length = [] := by
  unfold restL
  split
  · rename_i h
    rw [List.length_eq_zero_iff.1 h]
    rfl
  · rw [List.drop_length]
    rfl
theorem spcL_get (b : List Int) : ∀ (L : List S28) (i : Nat) (h : i < L.length) (h' : i < (spcL b L).length), (spcL b L)[i] = b ++ (spc b L[i] ++ b)
  | [], i, h, _ => by cases h
  | x :: l, 0, _, _ => rfl
  | x :: l, i + 1, h, h' => spcL_get b l i (by simpa using h) (by rw [spcL_len]; simpa using h)
theorem by_lit1 (a : UInt8) : bytesOf (⟨#[a]⟩ : ByteArray) = [(a.toNat : Int)] := rfl
theorem by_len (a : ByteArray) : a.size = (bytesOf a).length := (bytesOf_length a).symm
theorem sp_le {k k' : Nat} (h : k ≤ k') {y0 : Int} {y1 : ByteArray} {y2 : List ByteArray} {y3 : List S28} {y4 r : ByteArray} (e : signetrylaw14_spaced.f k y0 y1 y2 y3 y4 = some r) : signetrylaw14_spaced.f k' y0 y1 y2 y3 y4 = some r :=
  leO_le (f := fun k => signetrylaw14_spaced.f k y0 y1 y2 y3 y4) (fun k => (signetrylaw14_spaced.mono_l k).1 _ _ _ _ _) h _ e
theorem sl_le {k k' : Nat} (h : k ≤ k') {y0 y1 : ByteArray} {y2 y3 : Int} {y4 : ByteArray} {y5 : List ByteArray} {y6 : List S28} {r : ByteArray} (e : signetrylaw14_spaced.l0 k y0 y1 y2 y3 y4 y5 y6 = some r) : signetrylaw14_spaced.l0 k' y0 y1 y2 y3 y4 y5 y6 = some r :=
  leO_le (f := fun k => signetrylaw14_spaced.l0 k y0 y1 y2 y3 y4 y5 y6) (fun k => (signetrylaw14_spaced.mono_l k).2.1 _ _ _ _ _ _ _) h _ e
theorem key_text {q : ByteArray} (h : badF q = false) (hz : (quoL q).length ≤ 1073741824) : ∃ k0 u, (∀ k, k0 ≤ k → jtree_Text.f k 5 q [] [] = some (u, 0)) ∧ bytesOf u = quoL q := by
  have hm : mayF ⟨5, q, [], []⟩ 1 = true := by
    rw [mayF]
    unfold isF
    rw [if_neg (by decide), if_neg (by decide), if_pos rfl, h]
    rfl
  obtain ⟨k0, h0⟩ := text_at (n := ⟨5, q, [], []⟩) hm (by rw [cnt]; simp [cntL]) (by rw [spc, if_neg (by decide), if_pos rfl]; exact hz)
  refine ⟨k0, _, fun k hk => (h0 k hk).2, ?_⟩
  rw [wri_bytes, spc, if_neg (by decide), if_pos rfl]
def itemsL (b : List Int) (kd : Int) (ks : List ByteArray) (L : List S28) : List (List Int) := if kd = 7 then List.zipWith (kv b) ks (spcL b L) else spcL b L
theorem rd_at (L : List S28) (i : Nat) (h : i < L.length) : rd_T28 L (i : Int) = L[i] := by
  unfold rd_T28
  rw [Int.toNat_natCast, List.getD_eq_getElem?_getD, List.getElem?_eq_getElem h]
  rfl
theorem rs_at (L : List ByteArray) (i : Nat) (h : i < L.length) : rdOf ByteArray.empty L (i : Int) = L[i] := by
  unfold rdOf
  rw [Int.toNat_natCast, List.getD_eq_getElem?_getD, List.getElem?_eq_getElem h]
  rfl
/-- One element. -/
theorem item_at (b : ByteArray) (kd : Int) (s : ByteArray) (ks : List ByteArray) (L : List S28) (i : Nat) (hi : i < L.length) (hP : i < (itemsL (bytesOf b) kd ks L).length) (hk : kd = 7 → ks.length = L.length ∧ ∀ q ∈ ks, badF q = false)
    {k1 : Nat} {s1 : ByteArray} (h1 : signetrylaw14_spaced.f k1 L[i].f0 L[i].f1 L[i].f2 L[i].f3 b = some s1) (hs1 : bytesOf s1 = bytesOf b ++ (spc (bytesOf b) L[i] ++ bytesOf b)) (x7 : ByteArray) (hz : x7.size + ((itemsL (bytesOf b) kd ks L)[i]).length ≤ 1073741824) (hL : L.length ≤ 1099511627776) :
    ∃ y : ByteArray, bytesOf y = bytesOf x7 ++ (itemsL (bytesOf b) kd ks L)[i] ∧ ∃ K0, ∀ K, K0 ≤ K → signetrylaw14_spaced.j1 (K + 1) b x7 (i : Int) kd s ks L = signetrylaw14_spaced.l0 K b y ((i + 1 : Nat) : Int) kd s ks L := by
  have hw : wrap64 ((i : Int) + 1) = ((i + 1 : Nat) : Int) := by unfold wrap64; omega
  have hbz := by_len b
  have hx7 := by_len x7
  have hsz1 := by_len s1
  rw [hs1] at hsz1
  simp only [List.length_append] at hsz1
  have hspL : i < (spcL (bytesOf b) L).length := by rw [spcL_len]; exact hi
  by_cases k7 : kd = 7
  · obtain ⟨hkl, hbad⟩ := hk k7
    have hik : i < ks.length := by omega
    have hit : (itemsL (bytesOf b) kd ks L)[i] = kv (bytesOf b) ks[i] (bytesOf b ++ (spc (bytesOf b) L[i] ++ bytesOf b)) := by
      have : itemsL (bytesOf b) kd ks L = List.zipWith (kv (bytesOf b)) ks (spcL (bytesOf b) L) := by unfold itemsL; rw [if_pos k7]
      have h2 : (itemsL (bytesOf b) kd ks L)[i]? = (List.zipWith (kv (bytesOf b)) ks (spcL (bytesOf b) L))[i]? := by rw [this]
      rw [List.getElem?_eq_getElem hP, List.getElem?_zipWith, List.getElem?_eq_getElem hik, List.getElem?_eq_getElem hspL, spcL_get _ _ _ hi] at h2
      exact Option.some.inj h2
    rw [hit] at hz ⊢
    have hkv : (kv (bytesOf b) ks[i] (bytesOf b ++ (spc (bytesOf b) L[i] ++ bytesOf b))).length = (bytesOf b).length + ((quoL ks[i]).length + ((bytesOf b).length + ((bytesOf b).length + ((spc (bytesOf b) L[i]).length + (bytesOf b).length) + 1))) := by simp only [kv, List.length_append, List.length_cons]
    rw [hkv] at hz
    obtain ⟨k2, u, hu, hub⟩ := key_text (hbad _ (List.getElem_mem hik)) (by omega)
    have huz := by_len u
    rw [hub] at huz
    have h58 : (⟨#[58]⟩ : ByteArray).size = 1 := rfl
    refine ⟨((((x7 ++ b) ++ u) ++ b) ++ (⟨#[58]⟩ : ByteArray)) ++ s1, ?_, max k1 k2, fun K hK => ?_⟩
    · simp only [by_app, hub, hs1, kv, List.append_assoc]
      rfl
    · have f1 := sp_le (Nat.le_trans (Nat.le_max_left k1 k2) hK) h1
      have f2 := hu K (Nat.le_trans (Nat.le_max_right k1 k2) hK)
      rw [signetrylaw14_spaced.j1, if_pos k7, if_pos (by omega), if_pos (by omega), rs_at _ _ hik, f2, Option.bind_some]
      simp only
      rw [if_pos (by omega), if_pos (by simp only [ByteArray.size_append]; omega), if_pos (by simp only [ByteArray.size_append]; omega), if_pos (by simp only [ByteArray.size_append]; omega), if_pos (by omega), rd_at _ _ hi, f1, Option.bind_some, if_pos (by simp only [ByteArray.size_append]; omega), hw]
  · have hit : (itemsL (bytesOf b) kd ks L)[i] = bytesOf b ++ (spc (bytesOf b) L[i] ++ bytesOf b) := by
      have : itemsL (bytesOf b) kd ks L = spcL (bytesOf b) L := by unfold itemsL; rw [if_neg k7]
      have h2 : (itemsL (bytesOf b) kd ks L)[i]? = (spcL (bytesOf b) L)[i]? := by rw [this]
      rw [List.getElem?_eq_getElem hP, List.getElem?_eq_getElem hspL, spcL_get _ _ _ hi] at h2
      exact Option.some.inj h2
    rw [hit] at hz ⊢
    simp only [List.length_append] at hz
    refine ⟨x7 ++ s1, by rw [by_app, hs1], k1, fun K hK => ?_⟩
    have f1 := sp_le hK h1
    rw [signetrylaw14_spaced.j1, if_neg k7, if_pos (by omega), if_pos (by omega), rd_at _ _ hi, f1, Option.bind_some, if_pos (by omega), hw]
/-- What spaced makes of a node. -/
theorem spaced_at (b : ByteArray) : ∀ (N : Nat) (n : S28) (d : Int), cnt n ≤ N → mayF n d = true → 1 ≤ d → cnt n ≤ 4000 → (spc (bytesOf b) n).length + 4 * b.size ≤ 1073741824 →
    ∃ k s, signetrylaw14_spaced.f k n.f0 n.f1 n.f2 n.f3 b = some s ∧ bytesOf s = bytesOf b ++ (spc (bytesOf b) n ++ bytesOf b)
  | 0, n, d, h, _, _, _, _ => by
    obtain ⟨k, s, ks, L⟩ := n
    rw [cnt] at h
    omega
  | N + 1, n, d, h, hm, hd, hc, hsz => by
    by_cases h6 : n.f0 < 6
    · have hm1 := may_less _ n d 1 (Nat.le_refl _) hm hd
      rw [spc_leaf _ h6] at hsz ⊢
      obtain ⟨k0, h0⟩ := text_at hm1 hc (by omega)
      have hw := wri_bytes n
      have hws := wri_size n
      refine ⟨k0 + 1, (b ++ wriF n) ++ b, ?_, ?_⟩
      · rw [signetrylaw14_spaced.f, if_pos h6, (h0 k0 (Nat.le_refl _)).2, Option.bind_some]
        simp only
        rw [if_pos (by omega), if_pos (by rw [ByteArray.size_append]; omega)]
      · rw [by_app, by_app, hw, List.append_assoc]
    · obtain ⟨kd, t, ks, L⟩ := n
      have h6 : ¬ kd < 6 := h6
      rw [cnt] at h hc
      rw [mayF] at hm
      simp only [Bool.and_eq_true, decide_eq_true_eq] at hm
      obtain ⟨⟨hi, _⟩, hmL⟩ := hm
      have hkk : (kd = 6 ∨ kd = 7) ∧ (kd = 7 → ks.length = L.length ∧ ∀ q ∈ ks, badF q = false) := by
        unfold isF at hi
        rw [if_neg (by omega), if_neg (by omega), if_neg (by omega)] at hi
        by_cases k6 : kd = 6
        · exact ⟨Or.inl k6, fun e => by omega⟩
        · rw [if_neg k6] at hi
          by_cases k7 : kd = 7
          · rw [if_pos k7] at hi
            simp only [Bool.and_eq_true, decide_eq_true_eq, Bool.not_eq_true'] at hi
            exact ⟨Or.inr k7, fun _ => ⟨hi.1.1.2, fun q hq => by simpa using List.any_eq_false.1 hi.2 q hq⟩⟩
          · rw [if_neg k7] at hi
            cases hi
      obtain ⟨hk67, hkey⟩ := hkk
      have hL := len_cntL L
      obtain ⟨P, hP⟩ : ∃ P, itemsL (bytesOf b) kd ks L = P := ⟨_, rfl⟩
      have hPl : P.length = L.length := by
        rw [← hP]
        unfold itemsL
        split
        · rename_i k7
          rw [List.length_zipWith, spcL_len, (hkey k7).1, Nat.min_self]
        · exact spcL_len _ _
      obtain ⟨o, ho⟩ : ∃ o : Int, (if kd = 6 then 91 else 123) = o := ⟨_, rfl⟩
      obtain ⟨cl, hcl⟩ : ∃ cl : Int, (if kd = 6 then 93 else 125) = cl := ⟨_, rfl⟩
      have hspc : spc (bytesOf b) ⟨kd, t, ks, L⟩ = o :: (bytesOf b ++ (cm P ++ (bytesOf b ++ [cl]))) := by
        rw [spc, if_neg (by omega), if_neg (by omega), ← hP, ← ho, ← hcl]
        unfold itemsL
        rcases hk67 with rfl | rfl
        · rfl
        · rfl
      have hbz := by_len b
      have lp : ∀ (m i : Nat), i + m = L.length → ∀ x7 : ByteArray, x7.size + (restL P i).length + 4 * b.size + 2 ≤ 1073741824 → ∃ k r, signetrylaw14_spaced.l0 k b x7 (i : Int) kd t ks L = some r ∧ bytesOf r = bytesOf b ++ o :: (bytesOf b ++ (bytesOf x7 ++ (restL P i ++ (bytesOf b ++ cl :: bytesOf b)))) := by
        intro m
        induction m with
        | zero =>
          intro i hi x7 hx
          obtain rfl : i = P.length := by omega
          rw [rest_end]
          have h91 : (⟨#[91]⟩ : ByteArray).size = 1 := rfl
          have h93 : (⟨#[93]⟩ : ByteArray).size = 1 := rfl
          have h123 : (⟨#[123]⟩ : ByteArray).size = 1 := rfl
          have h125 : (⟨#[125]⟩ : ByteArray).size = 1 := rfl
          rw [rest_end, List.length_nil] at hx
          rcases hk67 with rfl | rfl
          · refine ⟨1, (((((b ++ (⟨#[91]⟩ : ByteArray)) ++ b) ++ x7) ++ b) ++ (⟨#[93]⟩ : ByteArray)) ++ b, ?_, ?_⟩
            · rw [signetrylaw14_spaced.l0, if_neg (by omega), if_pos rfl, if_pos (by omega), if_pos (by simp only [ByteArray.size_append]; omega), if_pos (by simp only [ByteArray.size_append]; omega), if_pos (by simp only [ByteArray.size_append]; omega), if_pos (by simp only [ByteArray.size_append]; omega), if_pos (by simp only [ByteArray.size_append]; omega)]
            · rw [← ho, ← hcl]
              simp only [by_app, List.append_assoc, List.nil_append]
              rfl
          · refine ⟨1, (((((b ++ (⟨#[123]⟩ : ByteArray)) ++ b) ++ x7) ++ b) ++ (⟨#[125]⟩ : ByteArray)) ++ b, ?_, ?_⟩
            · rw [signetrylaw14_spaced.l0, if_neg (by omega), if_neg (by decide), if_pos (by omega), if_pos (by simp only [ByteArray.size_append]; omega), if_pos (by simp only [ByteArray.size_append]; omega), if_pos (by simp only [ByteArray.size_append]; omega), if_pos (by simp only [ByteArray.size_append]; omega), if_pos (by simp only [ByteArray.size_append]; omega)]
            · rw [← ho, ← hcl]
              simp only [by_app, List.append_assoc, List.nil_append]
              rfl
        | succ m ih =>
          intro i hi x7 hx
          have hlt : i < L.length := by omega
          have hPi : i < P.length := by omega
          have hra := rest_at P i hPi
          have hral := congrArg List.length hra
          simp only [List.length_append] at hral
          have hmem : L[i] ∈ L := List.getElem_mem hlt
          have hcm := cnt_mem hmem
          have hsub : (spc (bytesOf b) L[i]).length ≤ P[i].length := by
            have hspL : i < (spcL (bytesOf b) L).length := by rw [spcL_len]; exact hlt
            have h2 : P[i]? = (itemsL (bytesOf b) kd ks L)[i]? := by rw [hP]
            rw [List.getElem?_eq_getElem hPi] at h2
            unfold itemsL at h2
            split at h2
            · rename_i k7
              have hik : i < ks.length := by rw [(hkey k7).1]; exact hlt
              rw [List.getElem?_zipWith, List.getElem?_eq_getElem hik, List.getElem?_eq_getElem hspL, spcL_get _ _ _ hlt] at h2
              rw [Option.some.inj h2]
              simp only [kv, List.length_append, List.length_cons]
              omega
            · rw [List.getElem?_eq_getElem hspL, spcL_get _ _ _ hlt] at h2
              rw [Option.some.inj h2]
              simp only [List.length_append]
              omega
          obtain ⟨k1, s1, h1, hs1⟩ := spaced_at b N L[i] (d + 1) (by omega) (mayL_mem hmL hmem) (by omega) (by omega) (by omega)
          have h44 : (⟨#[44]⟩ : ByteArray).size = 1 := rfl
          have hPi' : i < (itemsL (bytesOf b) kd ks L).length := by rw [hP]; exact hPi
          have hPe : (itemsL (bytesOf b) kd ks L)[i] = P[i] := by
            have : (itemsL (bytesOf b) kd ks L)[i]? = P[i]? := by rw [hP]
            rw [List.getElem?_eq_getElem hPi', List.getElem?_eq_getElem hPi] at this
            exact Option.some.inj this
          obtain ⟨x7', hx7b, hgo⟩ : ∃ x7' : ByteArray, bytesOf x7' = bytesOf x7 ++ sepL i ∧ ∀ K, signetrylaw14_spaced.l0 (K + 1) b x7 (i : Int) kd t ks L = signetrylaw14_spaced.j1 K b x7' (i : Int) kd t ks L := by
            by_cases h0 : i = 0
            · refine ⟨x7, by unfold sepL; rw [if_pos h0, List.append_nil], fun K => ?_⟩
              rw [signetrylaw14_spaced.l0, if_pos (by omega), if_neg (by omega)]
            · refine ⟨x7 ++ (⟨#[44]⟩ : ByteArray), by unfold sepL; rw [if_neg h0, by_app]; rfl, fun K => ?_⟩
              rw [signetrylaw14_spaced.l0, if_pos (by omega), if_pos (by omega), if_pos (by omega)]
          have hx7z : x7'.size = x7.size + (sepL i).length := by rw [by_len, hx7b, List.length_append, ← by_len]
          obtain ⟨y, hy, K0, hK0⟩ := item_at b kd t ks L i hlt hPi' hkey h1 hs1 x7' (by rw [hPe]; omega) (by omega)
          rw [hPe, hx7b] at hy
          have hyz : y.size = x7.size + (sepL i).length + P[i].length := by rw [by_len, hy]; simp only [List.length_append, ← by_len]
          obtain ⟨k2, r, h2, hr⟩ := ih (i + 1) (by omega) y (by omega)
          refine ⟨max K0 k2 + 2, r, ?_, ?_⟩
          · rw [hgo, hK0 _ (Nat.le_max_left _ _)]
            exact sl_le (Nat.le_max_right _ _) h2
          · rw [hr, hra, hy]
            simp only [List.append_assoc]
      have hz0 : (⟨#[]⟩ : ByteArray).size = 0 := rfl
      have hr0 : restL P 0 = cm P := by unfold restL; rw [if_pos rfl]
      rw [hspc] at hsz
      simp only [List.length_cons, List.length_append, List.length_nil] at hsz
      obtain ⟨k, r, h1, h2⟩ := lp L.length 0 (by omega) ⟨#[]⟩ (by rw [hr0]; omega)
      refine ⟨k + 1, r, ?_, ?_⟩
      · show signetrylaw14_spaced.f (k + 1) kd t ks L b = some r
        rw [signetrylaw14_spaced.f, if_neg h6]
        exact h1
      · rw [h2, hspc, hr0]
        have : bytesOf (⟨#[]⟩ : ByteArray) = [] := rfl
        rw [this]
        simp [List.append_assoc]
end Go.Proofs.YtodnggilomanbaaGreatDoor.Pure
