/-
  TextKeys: the plain law.
-/
import Derived.Test.YtaklkcnohbbfoaaDoorPlainText
import Derived.Test.YtaklkcnohbbfoaaDoorLKeys
namespace Go.Proofs.YtaklkcnohbbfoaaDoor.Pure
open Go.RowKit Go.Lib Go.Proofs.YtaklkcnohbbfoaaDoor.PAll Go.Proofs.YtaklkcnohbbfoaaDoorW.PrintWords Go.Proofs.YtaklkcnohbbfoaaDoorW.PrintLast Go.Proofs.YtaklkcnohbbfoaaDoorW.PrintMore Go.Proofs.YtaklkcnohbbfoaaDoor.Hand
set_option linter.unusedVariables false
set_option linter.unusedSimpArgs false

theorem kb_append {a b : List Int} (ha : isBy a = true) (hb : isBy b = true) : isBy (a ++ b) = true := by
  refine List.all_eq_true.2 fun x hx => ?_
  rcases List.mem_append.1 hx with h | h
  · exact List.all_eq_true.1 ha x h
  · exact List.all_eq_true.1 hb x h
theorem kb_one {c : Int} (h0 : 0 ≤ c) (h1 : c ≤ 255) : isBy [c] = true := by simp [isBy, h0, h1]
theorem kb_bytes (a b : ByteArray) : bytesOf (a ++ b) = bytesOf a ++ bytesOf b := by simp [bytesOf, ByteArray.data_append]
theorem ky_no : ∀ (l : List Int) (up : Bool), ∀ x ∈ ky up l, x ≠ 95
  | [], _, x, h => by simp [ky] at h
  | c :: u, up, x, h => by
    rw [ky] at h
    split at h
    · exact ky_no u true x h
    · rename_i hc
      rcases List.mem_cons.1 h with rfl | h
      · split
        · omega
        · exact hc
      · exact ky_no u false x h
theorem ky_id : ∀ (l : List Int), (∀ x ∈ l, x ≠ 95) → ky false l = l
  | [], _ => rfl
  | c :: u, h => by
    rw [ky, if_neg (h c (by simp)), if_neg (fun e => Bool.false_ne_true e.1), ky_id u (fun x hx => h x (by simp [hx]))]
theorem ky_len : ∀ (l : List Int) (up : Bool), (ky up l).length ≤ l.length
  | [], _ => Nat.le_refl _
  | c :: u, up => by
    rw [ky]
    split
    · have := ky_len u true; rw [List.length_cons]; omega
    · have := ky_len u false; rw [List.length_cons, List.length_cons]; omega
theorem ky_by : ∀ (l : List Int) (up : Bool), isBy l = true → isBy (ky up l) = true
  | [], _, _ => rfl
  | c :: u, up, h => by
    obtain ⟨h0, h1⟩ := isBy_mem h (show c ∈ c :: u by simp)
    have hu : isBy u = true := isBy_drop h 1
    rw [ky]
    split
    · exact ky_by u true hu
    · refine kb_append (a := [_]) (kb_one ?_ ?_) (ky_by u false hu) <;> split <;> omega
def tabK : ByteArray := ⟨#[97, 98, 99, 120, 121, 122, 48, 49, 56, 57]⟩
theorem tabK_all : ∀ d : Fin 10, (97 ≤ bt tabK ((d.val : Nat) : Int) ∧ bt tabK ((d.val : Nat) : Int) ≤ 122) ∨ (48 ≤ bt tabK ((d.val : Nat) : Int) ∧ bt tabK ((d.val : Nat) : Int) ≤ 57) := by decide +kernel
theorem tabK_at {d : Int} (h0 : 0 ≤ d) (h1 : d < 10) : (97 ≤ bt tabK d ∧ bt tabK d ≤ 122) ∨ (48 ≤ bt tabK d ∧ bt tabK d ≤ 57) := by
  have := tabK_all ⟨d.toNat, by omega⟩
  simp only at this
  rwa [show ((d.toNat : Nat) : Int) = d from Int.toNat_of_nonneg h0] at this
/-- What one byte gives to the name. -/
def nm (c : Int) : List Int := if c % 3 = 0 ∧ 97 ≤ bt tabK (c % 10) then [95, bt tabK (c % 10)] else [bt tabK (c % 10)]
/-- What one byte of a key comes from. -/
def bk (c : Int) : List Int := if 65 ≤ c ∧ c ≤ 90 then [95, c + 32] else [c]
theorem nm_by {c : Int} : isBy (nm c) = true ∧ (nm c).length ≤ 2 := by
  have h := tabK_at (d := c % 10) (by omega) (by omega)
  unfold nm
  split
  · exact ⟨kb_append (a := [95]) (by decide) (kb_one (by omega) (by omega)), by simp⟩
  · exact ⟨kb_one (by omega) (by omega), by simp⟩
theorem nms_by : ∀ l : List Int, isBy (l.flatMap nm) = true ∧ (l.flatMap nm).length ≤ 2 * l.length
  | [] => ⟨rfl, by simp⟩
  | c :: u => by
    have h := nms_by u
    have g := nm_by (c := c)
    rw [List.flatMap_cons]
    exact ⟨kb_append g.1 h.1, by rw [List.length_append, List.length_cons]; omega⟩
theorem nm_back {c : Int} (r : List Int) : (ky false (nm c ++ r)).flatMap bk = nm c ++ (ky false r).flatMap bk := by
  have h := tabK_at (d := c % 10) (by omega) (by omega)
  unfold nm
  obtain ⟨d, hd⟩ : ∃ d, bt tabK (c % 10) = d := ⟨_, rfl⟩
  rw [hd] at h ⊢
  split
  · rename_i hc
    rw [List.cons_append, List.cons_append, List.nil_append, ky, if_pos rfl, ky, if_neg (by omega), if_pos ⟨rfl, hc.2, by omega⟩, List.flatMap_cons]
    unfold bk
    rw [if_pos (by omega), show d - 32 + 32 = d by omega]
    try rfl
  · rw [List.cons_append, List.nil_append, ky, if_neg (by omega), if_neg (fun e => Bool.false_ne_true e.1), List.flatMap_cons]
    unfold bk
    rw [if_neg (by omega)]
theorem nms_back : ∀ l : List Int, (ky false (l.flatMap nm)).flatMap bk = l.flatMap nm
  | [] => rfl
  | c :: u => by rw [List.flatMap_cons, nm_back, nms_back u]
theorem name_back (l : List Int) : (ky false (97 :: l.flatMap nm)).flatMap bk = 97 :: l.flatMap nm := by
  rw [ky, if_neg (by decide), if_neg (fun e => Bool.false_ne_true e.1), List.flatMap_cons, nms_back]
  rfl
theorem keys_l2 (x3 x4 x7 : ByteArray) (hn : ∀ x ∈ bytesOf x3, x ≠ 95) (he : x7.toList = x4.toList) (hz : x3.size ≤ 1000) : ∀ (u : List Int) (i k : Nat), (bytesOf x3).drop i = u → u.length + 61 ≤ k → signetrylaw02_TextKeys.l2 k x3 x4 x7 (i : Int) = some true
  | [], i, k, hu, hk => by
    obtain ⟨m, rfl⟩ : ∃ m, k = m + 1 := ⟨k - 1, by omega⟩
    have := drop_nil hu
    rw [signetrylaw02_TextKeys.l2, if_neg (by omega), if_pos he, works_up (by simp at hk; omega)]
    rfl
  | c :: u, i, k, hu, hk => by
    obtain ⟨m, rfl⟩ : ∃ m, k = m + 1 := ⟨k - 1, by omega⟩
    obtain ⟨h1, h2, h3⟩ := bt_cons hu
    have hc := hn c (List.mem_of_mem_drop (show c ∈ (bytesOf x3).drop i by rw [hu]; simp))
    have hw : wrap64 ((i : Int) + 1) = ((i + 1 : Nat) : Int) := by rw [w64 (by omega) (by omega)]; omega
    rw [signetrylaw02_TextKeys.l2, if_pos (by omega), if_pos (by omega), h1, if_neg hc, hw]
    exact keys_l2 x3 x4 x7 hn he hz u (i + 1) m h2 (by simp at hk; omega)
theorem keys_l1 (x3 x4 x8 : ByteArray) (hn : ∀ x ∈ bytesOf x3, x ≠ 95) (hz : x3.size ≤ 1000) (hz8 : x8.size ≤ 1000) (hb : (bytesOf x8).flatMap bk = bytesOf x4) (hfin : ∀ (x7 : ByteArray), bytesOf x7 = bytesOf x4 → x7.toList = x4.toList) :
    ∀ (u : List Int) (i k : Nat) (x7 : ByteArray), (bytesOf x8).drop i = u → x7.size ≤ 2 * i → bytesOf x7 ++ u.flatMap bk = bytesOf x4 → u.length + x3.size + 63 ≤ k → signetrylaw02_TextKeys.l1 k x3 x4 x7 x8 (i : Int) = some true
  | [], i, k, x7, hu, h7, hx, hk => by
    obtain ⟨m, rfl⟩ : ∃ m, k = m + 1 := ⟨k - 1, by omega⟩
    have := drop_nil hu
    rw [signetrylaw02_TextKeys.l1, if_neg (by omega)]
    have hl := bytesOf_length x3
    exact keys_l2 x3 x4 x7 hn (hfin x7 (by simpa using hx)) hz (bytesOf x3) 0 m (by simp) (by simp at hk; omega)
  | c :: u, i, k, x7, hu, h7, hx, hk => by
    obtain ⟨m, rfl⟩ : ∃ m, k = m + 1 := ⟨k - 1, by omega⟩
    obtain ⟨h1, h2, h3⟩ := bt_cons hu
    obtain ⟨b0, b1⟩ := isBy_mem (isBy_drop (isBy_bytesOf x8) i) (show c ∈ (bytesOf x8).drop i by rw [hu]; simp)
    have hw : wrap64 ((i : Int) + 1) = ((i + 1 : Nat) : Int) := by rw [w64 (by omega) (by omega)]; omega
    have hk2 : u.length + x3.size + 63 ≤ m := by simp at hk; omega
    rw [signetrylaw02_TextKeys.l1, if_pos (by omega), if_pos (by omega), h1, hw]
    have hone : ∀ x : Int, (strOfNums [x]).size = 1 := fun x => str_size [x]
    have plain : bk c = [c] → (if x7.size + (strOfNums [c]).size ≤ 9223372036854775807 then signetrylaw02_TextKeys.l1 m x3 x4 (x7 ++ strOfNums [c]) x8 ((i + 1 : Nat) : Int) else none) = some true := by
      intro hbk
      have h1c := hone c
      rw [if_pos (by omega)]
      refine keys_l1 x3 x4 x8 hn hz hz8 hb hfin u (i + 1) m _ h2 (by rw [ByteArray.size_append]; omega) ?_ hk2
      rw [← hx, List.flatMap_cons, hbk, kb_bytes, bytesOf_str (kb_one b0 b1), List.append_assoc]
    by_cases h65 : c ≥ 65
    · rw [if_pos h65]
      by_cases h90 : c ≤ 90
      · have hv : ((c - 65) % 256 + 97) % 256 = c + 32 := by omega
        have h1c := hone (c + 32)
        have hs1 : (x7 ++ (⟨#[95]⟩ : ByteArray)).size = x7.size + 1 := by rw [ByteArray.size_append]; rfl
        rw [if_pos h90, if_pos (by omega), hv, Option.bind_some, if_pos (by omega)]
        refine keys_l1 x3 x4 x8 hn hz hz8 hb hfin u (i + 1) m _ h2 (by rw [ByteArray.size_append]; omega) ?_ hk2
        have e95 : bytesOf (⟨#[95]⟩ : ByteArray) = [95] := rfl
        rw [← hx, List.flatMap_cons, show bk c = [95, c + 32] by unfold bk; rw [if_pos ⟨h65, h90⟩], kb_bytes, kb_bytes, bytesOf_str (kb_one (by omega) (by omega)), e95]
        simp
      · rw [if_neg h90]
        exact plain (by unfold bk; rw [if_neg (fun e => h90 e.2)])
    · rw [if_neg h65]
      exact plain (by unfold bk; rw [if_neg (fun e => h65 e.1)])
theorem key_ar {a b z : Nat} (h : a ≤ 2 * b) (hb : b ≤ 100) (hz : z = a + 1) : z ≤ 1099511627776 ∧ z ≤ 201 := by omega
theorem key_ar2 {k z w x : Nat} (h : k ≤ z) (hz : z ≤ 201) (hw : w = k) (hx : x ≤ 100) : w ≤ 1000 ∧ k + x + 63 ≤ 999 := by omega
theorem keys_end (s x3 x4 : ByteArray) (hn : ∀ x ∈ bytesOf x3, x ≠ 95) (hz : x3.size ≤ 100) (hs : s.size ≤ 100) (i : Int) (hi : ¬ i < (s.size : Int)) (h4 : bytesOf x4 = 97 :: (bytesOf s).flatMap nm) : signetrylaw02_TextKeys.l0 1000 s x3 x4 i = some true := by
  have hnb := (nms_by (bytesOf s)).2
  rw [bytesOf_length] at hnb
  have hz4 : x4.size = ((bytesOf s).flatMap nm).length + 1 := by rw [← bytesOf_length x4, h4]; rfl
  obtain ⟨z1, z2⟩ := key_ar hnb hs hz4
  have hB : isBy (ky false (bytesOf x4)) = true := ky_by _ _ (isBy_bytesOf x4)
  have hkl := ky_len (bytesOf x4) false
  rw [bytesOf_length] at hkl
  have hb8 : bytesOf (strOfNums (ky false (bytesOf x4))) = ky false (bytesOf x4) := bytesOf_str hB
  have hz8 : (strOfNums (ky false (bytesOf x4))).size = (ky false (bytesOf x4)).length := str_size _
  obtain ⟨w1, w2⟩ := key_ar2 hkl z2 hz8 hz
  have hbk : (ky false (bytesOf x4)).flatMap bk = bytesOf x4 := by rw [h4]; exact name_back _
  have hkey : text_Key.f x4 = some (strOfNums (ky false (bytesOf x4))) := by unfold text_Key.f; rw [if_pos z1]
  rw [show (1000 : Nat) = 999 + 1 from rfl, signetrylaw02_TextKeys.l0, if_neg hi, hkey, Option.bind_some]
  exact keys_l1 x3 x4 _ hn (Nat.le_trans hz (by decide)) w1 (by rw [hb8]; exact hbk) (fun x7 h => by rw [bytesOf_inj h]) (ky false (bytesOf x4)) 0 999 ⟨#[]⟩ (by rw [hb8]; rfl) (Nat.zero_le _) (by rw [hbk]; rfl) w2
theorem keys_step (s x3 x4 : ByteArray) (i k : Nat) (c : Int) (hc : bt s (i : Int) = c) (b0 : 0 ≤ c) (hi : i < s.size) (hs : s.size ≤ 100) (hz4 : x4.size ≤ 201) : ∃ y : ByteArray, bytesOf y = bytesOf x4 ++ nm c ∧ signetrylaw02_TextKeys.l0 (k + 1) s x3 x4 (i : Int) = signetrylaw02_TextKeys.l0 k s x3 y ((i + 1 : Nat) : Int) := by
  have hw : wrap64 ((i : Int) + 1) = ((i + 1 : Nat) : Int) := by rw [w64 (by omega) (by omega)]; omega
  have hone : ∀ x : Int, (strOfNums [x]).size = 1 := fun x => str_size [x]
  have m1 : Int.tmod c 10 = c % 10 := Int.tmod_eq_emod_of_nonneg b0
  have m2 : Int.tmod c 3 = c % 3 := Int.tmod_eq_emod_of_nonneg b0
  have hd := tabK_at (d := c % 10) (by omega) (by omega)
  have g0 : (i : Int) < (s.size : Int) := by omega
  have g1 : (0 : Int) ≤ c % 10 := by omega
  have g2 : c % 10 < 10 := by omega
  have hT : (⟨#[97, 98, 99, 120, 121, 122, 48, 49, 56, 57]⟩ : ByteArray) = tabK := rfl
  have h1c := hone (bt tabK (c % 10))
  rw [signetrylaw02_TextKeys.l0, if_pos g0, if_pos (by omega), hc, hw, m1, m2, if_pos g1, if_pos g2, hT]
  have plain : nm c = [bt tabK (c % 10)] → ∃ y : ByteArray, bytesOf y = bytesOf x4 ++ nm c ∧ (if x4.size + (strOfNums [bt tabK (c % 10)]).size ≤ 9223372036854775807 then signetrylaw02_TextKeys.l0 k s x3 (x4 ++ strOfNums [bt tabK (c % 10)]) ((i + 1 : Nat) : Int) else none) = signetrylaw02_TextKeys.l0 k s x3 y ((i + 1 : Nat) : Int) := by
    intro hnm
    rw [if_pos (by omega)]
    exact ⟨_, by rw [kb_bytes, bytesOf_str (kb_one (by omega) (by omega)), hnm], rfl⟩
  by_cases h30 : c % 3 = 0
  · rw [if_pos h30]
    by_cases h97 : bt tabK (c % 10) ≥ 97
    · have hs1 : (x4 ++ (⟨#[95]⟩ : ByteArray)).size = x4.size + 1 := by rw [ByteArray.size_append]; rfl
      rw [if_pos h97, if_pos (by omega), Option.bind_some, if_pos (by omega)]
      refine ⟨_, ?_, rfl⟩
      have e95 : bytesOf (⟨#[95]⟩ : ByteArray) = [95] := rfl
      rw [kb_bytes, kb_bytes, bytesOf_str (kb_one (by omega) (by omega)), e95, show nm c = [95, bt tabK (c % 10)] by unfold nm; rw [if_pos ⟨h30, h97⟩]]
      simp
    · rw [if_neg h97]
      exact plain (by unfold nm; rw [if_neg (fun e => h97 e.2)])
  · rw [if_neg h30]
    exact plain (by unfold nm; rw [if_neg (fun e => h30 e.1)])
theorem key_take {s : ByteArray} {i : Nat} {c : Int} {u : List Int} (hu : (bytesOf s).drop i = c :: u) : (bytesOf s).take (i + 1) = (bytesOf s).take i ++ [c] := by
  obtain ⟨h1, h2, h3⟩ := rd_drop hu
  rw [List.take_add_one, List.getElem?_eq_getElem h3]
  rw [List.drop_eq_getElem_cons h3] at hu
  rw [(List.cons.inj hu).1]
  rfl
theorem key_z4 {s x4 : ByteArray} {i : Nat} (h4 : bytesOf x4 = 97 :: ((bytesOf s).take i).flatMap nm) (hs : s.size ≤ 100) : x4.size ≤ 201 := by
  have hnb := (nms_by ((bytesOf s).take i)).2
  have hlt : ((bytesOf s).take i).length ≤ 100 := by rw [List.length_take, bytesOf_length]; omega
  have hz4 : x4.size = (((bytesOf s).take i).flatMap nm).length + 1 := by rw [← bytesOf_length x4, h4]; rfl
  exact (key_ar hnb hlt hz4).2
theorem keys_l0 (s x3 : ByteArray) (hn : ∀ x ∈ bytesOf x3, x ≠ 95) (hz : x3.size ≤ 100) (hs : s.size ≤ 100) : ∀ (u : List Int) (i : Nat) (x4 : ByteArray), (bytesOf s).drop i = u → bytesOf x4 = 97 :: ((bytesOf s).take i).flatMap nm → signetrylaw02_TextKeys.l0 (u.length + 1000) s x3 x4 (i : Int) = some true
  | [], i, x4, hu, h4 => by
    have hge := drop_nil hu
    rw [List.take_of_length_le (by rw [bytesOf_length]; exact hge)] at h4
    rw [show ([] : List Int).length + 1000 = 1000 from rfl]
    exact keys_end s x3 x4 hn hz hs (i : Int) (by omega) h4
  | c :: u, i, x4, hu, h4 => by
    obtain ⟨h1, h2, h3⟩ := bt_cons hu
    obtain ⟨b0, b1⟩ := isBy_mem (isBy_drop (isBy_bytesOf s) i) (show c ∈ (bytesOf s).drop i by rw [hu]; simp)
    obtain ⟨y, hy, hst⟩ := keys_step s x3 x4 i (u.length + 1000) c h1 b0 h3 hs (key_z4 h4 hs)
    rw [List.length_cons, show u.length + 1 + 1000 = (u.length + 1000) + 1 by omega, hst]
    refine keys_l0 s x3 hn hz hs u (i + 1) y h2 ?_
    rw [hy, key_take hu, h4, List.flatMap_append]
    simp
theorem TextKeys : signetrylaw02_TextKeys.Pure := by
  intro a0 _
  obtain ⟨t, ht⟩ : ∃ t, a0.extract 0 (min a0.size 100) = t := ⟨_, rfl⟩
  have hz : t.size ≤ 100 := by rw [← ht, ByteArray.size_extract]; omega
  have hl := bytesOf_length t
  refine ⟨t.size + 1000 + 1, ?_⟩
  unfold signetrylaw02_TextKeys.f
  have hm : mn (a0.size : Int) 100 = ((min a0.size 100 : Nat) : Int) := mn_nat a0.size 100
  rw [hm, if_pos (by omega), if_pos (by omega), Int.toNat_natCast, ht]
  have hB : isBy (ky false (bytesOf t)) = true := ky_by _ _ (isBy_bytesOf t)
  have hkl := ky_len (bytesOf t) false
  have hb8 : bytesOf (strOfNums (ky false (bytesOf t))) = ky false (bytesOf t) := bytesOf_str hB
  have hz8 : (strOfNums (ky false (bytesOf t))).size = (ky false (bytesOf t)).length := str_size _
  have hno := ky_no (bytesOf t) false
  rw [show text_Key.f t = some (strOfNums (ky false (bytesOf t))) by unfold text_Key.f; rw [if_pos (by omega)], Option.bind_some]
  rw [show text_Key.f (strOfNums (ky false (bytesOf t))) = some (strOfNums (ky false (bytesOf t))) by unfold text_Key.f; rw [if_pos (by omega), hb8, ky_id _ hno], Option.bind_some, if_pos rfl, signetrylaw02_TextKeys.j0, decide_eq_false (by omega), if_neg Bool.false_ne_true]
  have := keys_l0 t (strOfNums (ky false (bytesOf t))) (by rw [hb8]; exact hno) (by omega) hz (bytesOf t) 0 ⟨#[97]⟩ (by simp) rfl
  rw [hl] at this
  exact this
end Go.Proofs.YtaklkcnohbbfoaaDoor.Pure
