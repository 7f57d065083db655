/-
  jtree's reader.str: the walk.
-/
import Derived.Test.YtodnggilomanbaaGreatDoorAp
import Derived.Test.YtodnggilomanbaaGreatDoorHandStep
import Derived.Test.YtodnggilomanbaaGreatDoorHandHz
import Derived.Test.YtodnggilomanbaaGreatDoorHandVz
import Derived.Deep.CutBlock
import Derived.Test.YtodnggilomanbaaGreatDoorHandBa
set_option maxRecDepth 100000
set_option maxHeartbeats 4000000
namespace Go.Proofs.YtodnggilomanbaaGreatDoor.Hand
open Go.RowKit Go.Lib Go.Maps Go.Proofs.YtodnggilomanbaaGreatDoorW.PrintWords Go.Proofs.YtodnggilomanbaaGreatDoorW.PrintLast Go.Proofs.YtodnggilomanbaaGreatDoorW.PrintMore Go.Proofs.YtodnggilomanbaaGreatDoor.PAll
set_option linter.unusedVariables false
set_option linter.unusedSimpArgs false

/-- How far a string's end is. -/
def scanE : List Int → Nat
  | [] => 0
  | [c] => if c = 34 then 0 else if c = 92 then 2 else 1
  | c :: d :: t => if c = 34 then 0 else if c = 92 then 2 + scanE t else 1 + scanE (d :: t)
theorem scanE_at (c : Int) (t : List Int) : scanE (c :: t) = if c = 34 then 0 else if c = 92 then 2 + scanE (t.drop 1) else 1 + scanE t := by
 rcases t with _ | ⟨d, t⟩
 ·simp [scanE]
 ·simp [scanE]
theorem scanE_le : ∀ (n : Nat) (l : List Int), l.length ≤ n → scanE l ≤ l.length + 1
 | 0, [], _ => by simp [scanE]
 | 0, c :: t, h => by simp at h
 | n + 1, [], _ => by simp [scanE]
 | n + 1, c :: t, h => by
  rw [scanE_at]
  have h1 := scanE_le n t (by simpa using h)
  have h2 := scanE_le n (t.drop 1) (by simp at h ⊢; omega)
  rw [List.length_cons]
  split
  ·omega
  ·split
   ·rcases t with _ | ⟨d, t⟩
    ·simp [scanE]
    ·simp at h2 ⊢; omega
   ·omega
/-- What a string's inside spells; false: nothing, as from its start; true: it ends too soon. -/
def decS : Nat → ByteArray → List Int → Except Bool (List Int)
  | 0, _, out => .ok out
  | n + 1, t, out =>
    if t.size = 0 then .ok out
    else if bt t 0 < 32 then .error false
    else if bt t 0 ≠ 92 then decS n (t.extract 1 t.size) (out ++ [bt t 0])
    else if t.size = 1 then .error true
    else if (spell (t.extract 1 t.size)).2.2 = true then decS n (spell (t.extract 1 t.size)).2.1 (out ++ (spell (t.extract 1 t.size)).1)
    else .error false
def endF (s : ByteArray) (y : Int) : Int := y + (scanE ((bytesOf s).drop y.toNat) : Int)
def minE (s : ByteArray) (E : Int) : Int := min E (s.size : Int)
def insF (s : ByteArray) (y E : Int) : Except Bool (List Int) := decS (s.size) (s.extract y.toNat (minE s E).toNat) []
def strF (s : ByteArray) (x : Int) : Except Int (ByteArray × Int) := match wordF s [34] x with
  | .error p => .error p
  | .ok y => match insF s y (endF s y) with
    | .error false => .error x
    | .error true => .error s.size
    | .ok out => if endF s y < (s.size : Int) then (if Lib.validD (u8s out) = true then .ok (strOfNums out, endF s y + 1) else .error x) else .error s.size
def StrOut (w0 w w' : World) (g : Nat) (s : ByteArray) (many deep : Int) (r : Except Int (ByteArray × Int)) (e : Ending) : Prop := match r with
  | .ok (o, x) => e = .returned (.string o) ∧ IsS67 w0 w' g s x many deep ∧ Below w0.heap.size w0 w' ∧ KeepBut w w' g none
  | .error p => e = thrown p 140 ∧ Below w0.heap.size w0 w'
theorem word1 {s : ByteArray} {x : Int} (h1 : x ≤ (s.size : Int)) : wordF s [34] x = if x < (s.size : Int) ∧ bt s x = 34 then .ok (x + 1) else .error x := by
 unfold wordF
 by_cases hx : x = (s.size : Int)
 case pos =>
  rw [if_pos hx, if_neg (by omega)]
 rw [if_neg hx]
 by_cases hb : bt s x = 34
 case neg =>
  rw [if_neg hb, if_neg (fun h => hb h.2)]
 rw [if_pos hb, if_pos ⟨by omega, hb⟩]; rfl
theorem drop_bt (s : ByteArray) {y : Int} (h0 : 0 ≤ y) (h1 : y < (s.size : Int)) : (bytesOf s).drop y.toNat = bt s y :: (bytesOf s).drop (y.toNat + 1) := by
 have h2 : y.toNat < (bytesOf s).length := p119z
 rw [List.drop_eq_getElem_cons h2]
 refine congrArg (· :: _) ?_
 have h4 : y.toNat < s.size := by omega
 rw [← bt_at s y h4]
 simp [bytesOf]
 rfl
def strSz : Value → Nat
  | .string t => t.size
  | _ => 0
theorem decS_nil {n : Nat} {t : ByteArray} {l : List Int} (h : t.size = 0) : decS n t l = .ok l := by
  cases n with
  | zero => rfl
  | succ n => rw [decS, if_pos h]
theorem runeB_len (n : Int) : (runeB n).1.length ≤ 4 ∧ isBy (runeB n).1 = true := by
 unfold runeB
 split
 ·refine ⟨(Lib.encodeRuneZ_length n).2, ?_⟩
  unfold isBy
  refine List.all_eq_true.2 fun x hx => ?_
  obtain ⟨x0, x1⟩ := encodeRuneZ_byte _ x hx
  simp only [Bool.and_eq_true, decide_eq_true_eq]
  omega
 ·exact ⟨by simp, rfl⟩
theorem escV_rng (c : Int) : 0 ≤ escV c ∧ escV c ≤ 255 := by
  unfold escV
  repeat' split
  all_goals omega
theorem pair_sz (t : ByteArray) (n : Int) : (pairF t n).2.size ≤ t.size := by
 unfold pairF
 split
 ·rw [Lib.ext_size]; omega
 ·exact Nat.le_refl _
theorem spell_sz (u : ByteArray) (h : 1 ≤ u.size) : (spell u).1.length + (spell u).2.1.size ≤ u.size + 1 ∧ (spell u).2.1.size ≤ u.size ∧ isBy (spell u).1 = true := by
 unfold spell
 split
 ·refine ⟨?_, ?_, ?_⟩
  ·simp only [Lib.ext_size, List.length_singleton]; omega
  ·simp only [Lib.ext_size]; omega
  ·have := escV_rng (bt u 0)
   simp [isBy, this.1, this.2]
 ·split
  ·rename_i h1 h2
   have h4 := (half_rng (u.extract 1 u.size)).2.2 h2.2
   rw [Lib.ext_size] at h4
   have hp := pair_sz (u.extract 5 u.size) (halfF (u.extract 1 u.size))
   rw [Lib.ext_size] at hp
   have hb := runeB_len (pairF (u.extract 5 u.size) (halfF (u.extract 1 u.size))).1
   exact ⟨by simp only; omega, by simp only; omega, hb.2⟩
  ·have e0 : (⟨#[]⟩ : ByteArray).size = 0 := rfl
   exact ⟨by simp only [e0, List.length_nil]; omega, by simp only [e0]; omega, rfl⟩
theorem isBy_app {a b : List Int} (ha : isBy a = true) (hb : isBy b = true) : isBy (a ++ b) = true := by
  unfold isBy at *
  rw [List.all_append, ha, hb]
  rfl
theorem endF_le {s : ByteArray} {y E : Int} (h0 : 0 ≤ y) (h1 : y ≤ (s.size : Int)) (h : endF s y = E) : y ≤ E ∧ E ≤ (s.size : Int) + 1 := by
  unfold endF at h
  have := scanE_le _ ((bytesOf s).drop y.toNat) (Nat.le_refl _)
  rw [List.length_drop, bytesOf_length] at this
  omega
def str_r10.T : Bool × List (List Nat × List Nat) := (true, [([], []), ([0], [0]), ([1], [1]), ([2], [2]), ([], []), ([4], [4]), ([5], [5]), ([6], [6]), ([], []), ([], []), ([9], [9]), ([10], [10]), ([11], [11]), ([12], [12]), ([8, 13], [8, 13]), ([3, 7, 14], [3, 7, 14]), ([15, 0, 1, 2, 3, 4, 5, 6, 7, 8, 9, 10, 11, 12, 13, 14, 15], [15])])
def str_r10.B : List Nat := [0, 1, 3, 7, 0, 16, 48, 112, 0, 0, 512, 1536, 3584, 7680, 16128, 32767, 65535]
theorem str_r10.tab : rtab .any (opsOf Tryz.f85 10) = str_r10.T := p12z
theorem str_r10.bits : waitsOk str_r10.T.2 str_r10.B = true := p12z
def str_r16.T : Bool × List (List Nat × List Nat) := (true, [([], []), ([], []), ([1], [1]), ([0, 2], [0, 2]), ([], []), ([4], [4]), ([3, 3, 0, 1, 2, 3], [0, 3]), ([5, 6, 0, 1, 2, 3, 4, 5, 6], [4, 5])])
def str_r16.B : List Nat := [0, 0, 2, 7, 0, 16, 15, 48]
theorem str_r16.tab : rtab .any (opsOf Tryz.f85 16) = str_r16.T := p12z
theorem str_r16.bits : waitsOk str_r16.T.2 str_r16.B = true := p12z
theorem str_calls (g : Nat) (s : ByteArray) (x many deep : Int) (w0 w : World) (hI : IsS67 w0 w g s x many deep) (hB : Below w0.heap.size w0 w) (h0 : 0 ≤ x) (h1 : x ≤ (s.size : Int)) (hs : s.size ≤ 1073741824) (HTAB : Tabs w0) :
 Calls Tryz.prog 85 #[.pointer (some ⟨g, 0, none⟩)] w fun e w' => StrOut w0 w w' g s many deep (strF s x) e := by
 obtain ⟨r, hr⟩ : ∃ r, strF s x = r := ⟨_, rfl⟩
 rw [hr]
 unfold strF at hr
 have hw1 := word1 h1
 by_cases hok : x < (s.size : Int) ∧ bt s x = 34
 case neg =>
  rw [if_neg hok] at hw1
  rw [hw1] at hr
  simp only at hr
  have hword := word_err (t := ⟨#[34]⟩) hI hB h0 h1 (by omega) (by decide) hw1
  subst hr
  obtain ⟨HG, hgg⟩ := hI
  have hz0 := cellS67_0 HG
  have hz1 := cellS67_1 HG
  clear HG hgg hB hw1
  go_enter Tryz.func85, Tryz.ntmps85
  go_wp2_with (go_at_call 84; refine hword.mono ?_; rintro e w1 ⟨rfl, hb⟩)
  exact ⟨rfl, rfl, hb⟩
 rw [if_pos hok] at hw1
 rw [hw1] at hr
 simp only at hr
 have hword := word_ok (t := ⟨#[34]⟩) hI hB h0 h1 (by omega) (by decide) hw1
 obtain ⟨hx1, _⟩ := hok
 obtain ⟨y, hy⟩ : ∃ y, x + 1 = y := ⟨_, rfl⟩
 rw [hy] at hr hword
 obtain ⟨E, hE⟩ : ∃ E, endF s y = E := ⟨_, rfl⟩
 rw [hE] at hr
 have HR := hid hr
 clear hr hw1
 obtain ⟨HG, hgg⟩ := hI
 have hz0 := cellS67_0 HG
 have hz1 := cellS67_1 HG
 have HB0 := hid (And.intro HG (And.intro hgg hB))
 clear HG hgg hB
 go_enter Tryz.func85, Tryz.ntmps85
 go_upto_block 0 with (go_at_call 84; refine hword.mono ?_; rintro e w1 ⟨rfl, hi, hb, hk⟩; have hy0 := cellS67_0 hi.1; have hy1 := cellS67_1 hi.1; have HY := hid (And.intro hi (And.intro hb hk)); clear hi hb hk)
 clear hz0 hz1 hword
 have hyb : 0 ≤ y ∧ y ≤ (s.size : Int) := by omega
 have HYB := hid hyb
 clear hy hx1 h0 h1
 go_cut [4] from 22 to 48 (fun v wc => v = .int .i64 E ∧ wc = w1)
 case first =>
  go_wp2
  go_loopw [4] (fun v wr => ∃ z : Int, v = .int .i64 z ∧ wr = w1 ∧ y ≤ z ∧ z ≤ (s.size : Int) + 1 ∧ endF s z = E) (fun v _ => s.size + 1 - (intOf v).toNat)
  case atStart => exact ⟨y, rfl, rfl, Int.le_refl _, by omega, hE⟩
  case round =>
   obtain ⟨z, rfl, rfl, hz0, hz1, hzE⟩ := hrel
   by_cases hlt : z < (s.size : Int)
   case neg =>
    have hzz : z = E := by
     unfold endF at hzE
     rw [List.drop_eq_nil_iff.2 p119z, scanE] at hzE
     omega
    clear hzE
    go_wp2
    go_meet
    case rel => exact ⟨by first | rfl | rw [hzz], rfl⟩
   have hz00 : 0 ≤ z := by omega
   unfold endF at hzE
   rw [drop_bt s hz00 hlt, scanE_at] at hzE
   have hx6 := bt_at s z
   have p6 := eq_true hz00
   have q6 := eq_true hlt
   obtain ⟨c, hc⟩ : ∃ c, bt s z = c := ⟨_, rfl⟩
   rw [hc] at hzE hx6
   clear hc
   by_cases h34 : c = 34
   case pos =>
    rw [if_pos h34] at hzE
    have hq1 : (c != 34) = false := bne_eq_false_iff_eq.mpr h34
    clear h34
    go_wp2
    go_meet
    case rel => exact ⟨by rw [show z = E by omega], rfl⟩
   rw [if_neg h34] at hzE
   have hq1 : (c != 34) = true := bne_iff_ne.mpr h34
   by_cases h92 : c = 92
   case neg =>
    rw [if_neg h92] at hzE
    have hq2 : (c == 92) = false := beq_eq_false_iff_ne.mpr h92
    clear h34 h92
    go_wp2
    refine ⟨⟨z + 1, rfl, trivial, by omega, by omega, ?_⟩, p93z⟩
    unfold endF
    rw [show (z + 1).toNat = z.toNat + 1 by omega]
    omega
   rw [if_pos h92] at hzE
   have hq2 : (c == 92) = true := beq_iff_eq.mpr h92
   clear h34 h92
   go_wp2
   refine ⟨⟨z + 1 + 1, rfl, trivial, by omega, by omega, ?_⟩, p93z⟩
   unfold endF
   rw [show (z + 1 + 1).toNat = z.toNat + 1 + 1 by omega, ← List.drop_drop]
   omega
 case rest =>
  obtain ⟨rfl, rfl⟩ := hcut
  have hEb := endF_le hyb.1 hyb.2 hE
  obtain ⟨M, hM⟩ : ∃ M, min E (s.size : Int) = M := ⟨_, rfl⟩
  have hMM : y ≤ M ∧ 0 ≤ M ∧ M ≤ (s.size : Int) := by omega
  obtain ⟨m1, m2, m3⟩ := hMM
  obtain ⟨t0, ht0⟩ : ∃ t, s.extract y.toNat M.toNat = t := ⟨_, rfl⟩
  have htz : t0.size ≤ s.size := by rw [← ht0, ByteArray.size_extract]; omega
  have hr := HR.out
  unfold insF minE at hr
  rw [hM, ht0] at hr
  have HR1 := hid hr
  have HTZ := hid htz
  clear hr HR htz
  have hm4 := hyb.1
  go_wp2
  refine start_ (n := 17) (S := fun w' => w'.cell? ⟨g, 0, none⟩ = some (.string s) ∧ w'.cell? ⟨g, 1, none⟩ = some (.int .i64 y)) (ds := []) (tf 0 17) p12z rfl rfl ⟨hy0, hy1⟩ (fun hHeld => ?_); refine with_tabW str_r10.tab str_r10.bits (fun HT_ HW_ => ?_)
  have HZ := hid (And.intro HY.out.1.drew (And.intro (below_drew1 HY.out.2.1) (keep_drew HY.out.2.2)))
  clear HY hy0 hy1
  generalize hwd : wc.drew = wd at HZ hHeld ⊢
  clear hwd
  refine pzz 0 (some 56) (tf 1 16) ?_
  refine pzz 1 (some 57) (tf 2 15) ?_
  refine pzz 2 (some 58) (tf 3 14) ?_
  refine tzz 3 (some 59) (tf 4 13) ?_
  refine pzz 4 (some 60) (tf 5 12) ?_
  refine pzz 5 (some 61) (tf 6 11) ?_
  refine pzz 6 (some 62) (tf 7 10) ?_
  refine tzz 7 (some 63) (tf 8 9) ?_
  refine pzz 8 (some 64) (tf 9 8) ?_
  refine pzz 9 (some 65) (tf 10 7) ?_
  refine pzz 10 (some 66) (tf 11 6) ?_
  refine pzz 11 (some 67) (tf 12 5) ?_
  refine tzz 12 (some 68) (tf 13 4) ?_
  refine pzz 13 (some 69) (tf 14 3) ?_
  refine pzz 14 (some 70) (tf 15 2) ?_
  refine pzz 15 (some 71) (tf 16 1) ?_
  refine pzz 16 (some 7) (tf 17 0) ?_
  refine done_ (done_of HT_.out p12z) ?_
  clear m1 m2 m3 hm4 hM ht0
  obtain ⟨R, hRR⟩ : ∃ R, decS s.size t0 [] = R := ⟨_, rfl⟩
  have hr := HR1.out
  rw [hRR] at hr
  have HR2 := hid hr
  clear hr HR1 HYB hHeld hE HB0
  clear HT_ HW_
  go_wp2
  go_loopw [6, 7] (fun v6 v7 wr => ∃ (t : ByteArray) (l : List Int) (n : Nat), v7 = .string t ∧ decS n t l = R ∧ t.size ≤ n ∧ l.length + t.size ≤ s.size ∧ isBy l = true ∧ Kd.R (Kd.int .u8) 5 wr wd.heap.size (fun _ => True) v6 l ∧ Below wd.heap.size wd wr) (fun _ v7 _ => strSz v7)
  case atStart => exact ⟨t0, [], s.size, rfl, hRR, HTZ.out, by simpa using HTZ.out, rfl, Kd.R_nil _ _ _ _ _, Below.refl _ _⟩
  case round =>
   obtain ⟨t, l, n, rfl, hdec, htn, hlt, hby, hrow, hBr⟩ := hrel
   have hIr := HZ.out.1.below hBr
   have hz0 := cellS67_0 hIr.1
   have hz1 := cellS67_1 hIr.1
   have hBw := HZ.out.2.1.trans (hBr.mono HZ.out.2.1.size)
   clear hRR
   by_cases h0 : t.size = 0
   case pos =>
    rw [decS_nil h0] at hdec
    subst hdec
    have e0 : t.toList = ([] : List UInt8) := by
     rw [ByteArray.toList_eq]
     exact List.eq_nil_of_length_eq_zero (by rw [data_length]; exact h0)
    have e1 : (t.toList == ([] : List UInt8)) = true := beq_iff_eq.mpr e0
    have e2 : (t.toList != ([] : List UInt8)) = false := bne_eq_false_iff_eq.mpr e0
    obtain ⟨Ao, co, eo⟩ := Kd.R_slice hrow
    subst eo
    have hrd := Kd.R_reads' hrow
    have hval := ej Ao co l (Lib.validD (u8s l)) wr hrd.2.2 hrd.2.1 (by unfold cL.f; rw [if_pos ⟨by omega, hby⟩]) (HTAB.below hBw)
    have hr := HR2.out
    simp only at hr
    clear e0 hrd hby h0
    have HBR := hid (And.intro hrow (And.intro hBr (And.intro hBw hIr)))
    clear hrow hBr hBw hIr
    by_cases hEs : E < (s.size : Int)
    case neg =>
     rw [if_neg hEs] at hr
     have HRX := hid hr
     clear hr
     go_wp2_with (go_at_call 31; refine (bE _ _ _).mono ?_; rintro e w' ⟨rfl, rfl⟩)
     exact ⟨rfl, by rw [← HRX.out]; exact ⟨rfl, HBR.out.2.2.1⟩⟩
    rw [if_pos hEs] at hr
    by_cases hv : Lib.validD (u8s l) = true
    case neg =>
     rw [if_neg hv] at hr
     have hv' : Lib.validD (u8s l) = false := by simpa using hv
     rw [hv'] at hval
     have HRX := hid hr
     clear hr hv hv'
     go_wp2_with (first
      | (go_at_call 95; refine hval.mono ?_; rintro e w2 ⟨rfl, hb2⟩)
      | (go_at_call 31; refine (bE _ _ _).mono ?_; rintro e w' ⟨rfl, rfl⟩))
     exact ⟨rfl, by rw [← HRX.out]; exact ⟨rfl, HBR.out.2.2.1.trans (hb2.mono HBR.out.2.2.1.size)⟩⟩
    rw [if_pos hv] at hr
    rw [hv] at hval
    have HRX := hid hr
    clear hr hv
    have hwr : wrap64 (E + 1) = E + 1 := p76z
    go_wp2_with (go_at_call 95; refine hval.mono ?_; rintro e w2 ⟨rfl, hb2⟩; have hi2 := HBR.out.2.2.2.below hb2; have hf2 := blk_frozen hi2.1 1; have hc2 := cellS67_1 hi2.1; have hrow2 := Kd.R_keep (Kd.R_bound (Kd.R_below HBR.out.1 hb2)) (KeepBut.set_ (KeepBut.refl w2 g none) 1 (.int .i64 (E + 1))) (fun k hk => by have := HZ.out.1.lt; have := hk.2.1; omega); have hcv := own_string (P := Tryz.prog) Tryz.underlying23 Tryz.underlying5 Tryz.underlying9 (xs := l) (Kd.own_of_R hrow2); clear hrow2)
    have hi2 := HBR.out.2.2.2.below hb2
    go_ret
    rw [← HRX.out]
    exact ⟨rfl, hi2.set_1 (E + 1), below_set (j := 1) (v := .int .i64 (E + 1)) (HBR.out.2.2.1.trans (hb2.mono HBR.out.2.2.1.size)) HZ.out.1.2, KeepBut.set_ (HZ.out.2.2.trans (KeepBut.of_below (HBR.out.2.1.trans (hb2.mono HBR.out.2.1.size)) g none) (.inl rfl)) 1 _⟩
   obtain ⟨m, rfl⟩ : ∃ m, n = m + 1 := ⟨n - 1, by omega⟩
   rw [decS, if_neg h0] at hdec
   have e0 : t.toList ≠ ([] : List UInt8) := by
    intro e
    have := congrArg List.length e
    rw [ByteArray.toList_eq, data_length, List.length_nil] at this
    omega
   have e1 : (t.toList == ([] : List UInt8)) = false := beq_eq_false_iff_ne.mpr e0
   have e2 : (t.toList != ([] : List UInt8)) = true := bne_iff_ne.mpr e0
   have hp : 0 < t.size := by omega
   have hp1 : 1 ≤ t.size := by omega
   have hp2 : (1 : Int) ≤ (t.size : Int) := by omega
   clear e0 h0
   obtain ⟨c, hcd⟩ : ∃ c, bt t 0 = c := ⟨_, rfl⟩
   have hat : ∀ h, ((t[0]'h).toNat : Int) = c := fun h => by rw [← hcd]; exact bt_at t 0 h
   have hcr := bt_range t 0
   rw [hcd] at hdec hcr
   obtain ⟨b0, b1⟩ := hcr
   clear hcd
   have HLT := hid (And.intro hlt htn)
   clear hlt htn
   have hr := HR2.out
   by_cases h32 : c < 32
   case pos =>
    rw [if_pos h32] at hdec
    rw [← hdec] at hr
    simp only at hr
    have HRX := hid hr
    clear hr hdec
    go_wp2_with (go_at_call 31; refine (bE _ _ _).mono ?_; rintro e w' ⟨rfl, rfl⟩)
    exact ⟨rfl, by rw [← HRX.out]; exact ⟨rfl, hBw⟩⟩
   rw [if_neg h32] at hdec
   by_cases h92 : c ≠ 92
   case pos =>
    rw [if_pos h92] at hdec
    have hq1 : (c != 92) = true := bne_iff_ne.mpr h92
    have HD := hid hdec
    have HBY := hid hby
    clear hr hdec h92 hby hBw hz0 hz1 hIr
    have HO := hid (Kd.R_drew hrow)
    have HB := hid (below_drew1 hBr)
    clear hrow hBr
    go_wp2_with (fail)
    refine start_ (n := 8) (S := fun w' => True) (ds := []) (tf 0 8) p12z rfl rfl trivial (fun hHeld => ?_); refine with_tabW str_r16.tab str_r16.bits (fun HT_ HW_ => ?_)
    generalize wr.drew = wd2 at HO HB hHeld ⊢
    refine pzz 0 (some 85) (tf 1 7) ?_
    refine pzz 1 (some 86) (tf 2 6) ?_
    refine pzz 4 (some 89) (tfs true [2, 2, 1, 3]) ?_
    refine pzz 5 (some 90) (tfs true [2, 2, 2, 2]) ?_
    refine one_ (i := 2) (N := some 87) (tfs true [3, 1, 2, 2]) rfl rfl (one_of HT_.out p12z) (by decide) (fun K hK => ?_)
    refine value_ (w1 := ?_) (v := ?_) (by rfl) rfl ?_ ?_
    rotate_left 2
    ·go_simp
     constructor
     ·rfl
     ·rfl
    refine hK.out _ _ trivial (fun hHeld => ?_)
    clear hK K
    refine nzz (some 87) ?_
    refine one_ (i := 3) (N := some 88) (tf 6 2) rfl rfl (one_of HT_.out p12z) (by decide) (fun K hK => ?_)
    refine Kd.R_append_step (Kd.int .u8) (w0 := wd) wd.heap.size (by rfl) (.tmp 85) (.tmp 87) 23 5 (.int .u8 0) 1 rfl Tryz.underlying23 hinfo5 rfl (by decide) (by omega) u6 l c [.int .u8 c] (fun _ => True) (fun _ => False) rfl rfl ?aP (fun _ hk => hk.elim) ?aF ?aO ?aB ?aS ?aL ?_
    (case aP => exact rfl)
    (case aB => exact p0z)
    (case aF => exact (fun _ _ => trivial))
    (case aO => exact (q0z HO.out))
    (case aS => exact (below_size p0z))
    (case aL => have := HLT.out; omega)
    intro v186 w48 ho hb hg hat
    have HO2 := hid ho
    have HB2 := hid hb
    clear HB HO ho hb hg hat
    refine hK.out _ _ trivial (fun hHeld => ?_)
    clear hK K
    refine nzz (some 88) ?_
    refine pzz 6 (some 6) (tf 7 1) ?_
    refine pzz 7 (some 7) (tf 8 0) ?_
    refine done_ (done_of HT_.out p12z) ?_
    go_wp2
    exact ⟨⟨t.extract 1 t.size, l ++ [c], m, rfl, HD.out, by rw [Lib.ext_size]; have := HLT.out; omega, by rw [Lib.ext_size, List.length_append, List.length_singleton]; have := HLT.out; omega, isBy_app HBY.out (by simp [isBy, b0, b1]), HO2.out, HB2.out⟩, by simp only [strSz, Lib.ext_size]; omega⟩
   rw [if_neg h92] at hdec
   have h92' : c = 92 := by omega
   have hq1 : (c != 92) = false := bne_eq_false_iff_eq.mpr h92'
   clear h92 h32
   by_cases hone : t.size = 1
   case pos =>
    rw [if_pos hone] at hdec
    rw [← hdec] at hr
    simp only at hr
    have HRX := hid hr
    clear hr hdec
    have hq2 : ((t.size : Int) == 1) = true := beq_iff_eq.mpr (by omega)
    go_wp2_with (go_at_call 31; refine (bE _ _ _).mono ?_; rintro e w' ⟨rfl, rfl⟩)
    exact ⟨rfl, by rw [← HRX.out]; exact ⟨rfl, hBw⟩⟩
   rw [if_neg hone] at hdec
   have hq2 : ((t.size : Int) == 1) = false := beq_eq_false_iff_ne.mpr (by omega)
   obtain ⟨u, hu⟩ : ∃ u, t.extract 1 t.size = u := ⟨_, rfl⟩
   have hus : u.size + 1 = t.size := by rw [← hu, Lib.ext_size]; omega
   have hsp := ij u wr (by omega) (by have := HLT.out; omega) (HTAB.below hBw)
   have hsz := spell_sz u (by omega)
   rw [hu] at hdec
   obtain ⟨⟨b, more, ok⟩, hS⟩ : ∃ S, spell u = S := ⟨_, rfl⟩
   rw [hS] at hdec hsp hsz
   simp only at hdec hsp hsz
   clear hone hS
   by_cases hok2 : ok = true
   case neg =>
    rw [if_neg hok2] at hdec
    have hok3 : ok = false := by simpa using hok2
    subst hok3
    rw [← hdec] at hr
    simp only at hr
    have HRX := hid hr
    clear hr hdec hok2 hsz
    have HBW := hid hBw
    go_wp2_with (first | (go_at_call 102; refine hsp.mono ?_; rintro e w2 ⟨vr, rfl, hrow2, hb2⟩) | (go_at_call 31; refine (bE _ _ _).mono ?_; rintro e w' ⟨rfl, rfl⟩))
    exact ⟨rfl, by rw [← HRX.out]; exact ⟨rfl, HBW.out.trans (hb2.mono HBW.out.size)⟩⟩
   subst hok2
   rw [if_pos rfl] at hdec
   have HD := hid hdec
   have HSZ := hid hsz
   have HBY := hid hby
   clear hr hdec hsz hby
   go_wp2_with (first
    | (go_at_call 102; refine hsp.mono ?_; rintro e w2 ⟨vr, rfl, hrow2, hb2⟩; have HO0 := hid (Kd.R_elder' hrow (Kd.R_base hrow2) hb2); have HO1 := hid (Kd.R_lower (Kd.R_new' hrow2 (Kd.R_lt hrow)) hBr.size); have HB1 := hid (hBr.trans (hb2.mono hBr.size)); obtain ⟨Ao, co, eo⟩ := Kd.R_slice HO1.out; subst eo)
    | ((with_reducible refine gate_builtin (b := .append) (xs := #[.tmp 114, .tmp 115]) rfl ?_); (try (refine gate_guard (by rfl) ?_; dsimp only)); at_builtin; refine Kd.R_append_rows (Kd.int .u8) (w0 := wd) wd.heap.size rfl (.tmp 114) (.tmp 115) 23 5 (.int .u8 0) 1 rfl Tryz.underlying23 hinfo5 rfl (by decide) (by omega) u6 l b _ _ _ (fun k_ => some k_ ≠ (.slice Ao b.length co : Value).ownBlock) (fun _ => False) rfl rfl ?aO ?aR (fun _ _ h => h) (fun _ h => h.elim) ?aF ?aB ?aS ?aL ?_; (case aR => exact (Kd.R_reads' HO1.out).2.2); (case aB => exact HB1.out); (case aF => exact (fun k_ hk => Kd.fresh' (Kd.R_lt HO1.out) k_ hk)); (case aO => exact Kd.R_mono HO0.out (fun _ hk => hk.2)); (case aS => exact HB1.out.size); (case aL => have := HLT.out; have := HSZ.out; omega); intro v183 w42 ho hb hg hat))
   exact ⟨⟨more, l ++ b, m, rfl, HD.out, by have := HLT.out; have := HSZ.out; omega, by rw [List.length_append]; have := HLT.out; have := HSZ.out; omega, isBy_app HBY.out HSZ.out.2.2, Kd.R_mono ho (fun _ _ => trivial), hb⟩, by simp only [strSz]; have := HSZ.out; omega⟩
theorem u8s_len (l : List Int) : (u8s l).length = l.length := by simp [u8s]
end Go.Proofs.YtodnggilomanbaaGreatDoor.Hand
