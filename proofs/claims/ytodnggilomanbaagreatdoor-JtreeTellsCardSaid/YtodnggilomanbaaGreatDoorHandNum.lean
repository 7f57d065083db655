/-
  jtree's reader: number: the walk.
-/
import Derived.Test.YtodnggilomanbaaGreatDoorAp
import Derived.Test.YtodnggilomanbaaGreatDoorHandStep
import Derived.Test.YtodnggilomanbaaGreatDoorHandBa
set_option maxRecDepth 100000
set_option maxHeartbeats 8000000
namespace Go.Proofs.YtodnggilomanbaaGreatDoor.Hand
open Go.RowKit Go.Lib Go.Proofs.YtodnggilomanbaaGreatDoorW.PrintWords Go.Proofs.YtodnggilomanbaaGreatDoorW.PrintLast Go.Proofs.YtodnggilomanbaaGreatDoorW.PrintMore Go.Proofs.YtodnggilomanbaaGreatDoor.PAll
set_option linter.unusedVariables false
set_option linter.unusedSimpArgs false

/-- The byte that is next; 0 at the end. -/
def nowF (s : ByteArray) (x : Int) : Int := if x = (s.size : Int) then 0 else bt s x
theorem now_calls {g : Nat} {s : ByteArray} {x many deep : Int} {w0 w : World} (hI : IsS67 w0 w g s x many deep) (hB : Below w0.heap.size w0 w) (h0 : 0 ≤ x) (h1 : x ≤ (s.size : Int)) :
 Calls Tryz.prog 62 #[.pointer (some ⟨g, 0, none⟩)] w fun e w' => e = .returned (.int .u8 (nowF s x)) ∧ IsS67 w0 w' g s x many deep ∧ Below w0.heap.size w0 w' ∧ KeepBut w w' g none := by
 refine cr.calls g s x many deep (nowF s x) s x many deep w0 w hI hB ?_
 unfold cr.f nowF
 by_cases h : x = (s.size : Int)
 case pos =>
  rw [if_pos h, if_pos h]
 rw [if_neg h, if_neg h, if_pos h0, if_pos (by omega)]
/-- Where a number's digits begin. -/
def numAt (s : ByteArray) (x : Int) : Int := if nowF s x = 45 then x + 1 else x
/-- How many digits a number has that are read. -/
def numLen (s : ByteArray) (y : Int) : Int := if nowF s y = 48 then 1 else (ndg ((bytesOf s).drop y.toNat) : Int)
def numberF (s : ByteArray) (x many deep : Int) : Except (Int × Int) (S28 × Int × Int × Int) :=
  if ndg ((bytesOf s).drop (numAt s x).toNat) = 0 then .error (numAt s x, 140)
  else if ¬ nowF s (numAt s x) = 48 ∧ 40 < ndg ((bytesOf s).drop (numAt s x).toNat) then .error (x, 140)
  else .ok (⟨4, s.extract x.toNat (numAt s x + numLen s (numAt s x)).toNat, [], []⟩, numAt s x + numLen s (numAt s x), many, deep)
theorem numAt_bd {s : ByteArray} {x : Int} (h0 : 0 ≤ x) (h1 : x ≤ (s.size : Int)) : x ≤ numAt s x ∧ numAt s x ≤ (s.size : Int) ∧ numAt s x ≤ x + 1 := by
 unfold numAt nowF
 by_cases h : x = (s.size : Int)
 case neg =>
  rw [if_neg h]
  split <;> omega
 rw [if_pos h, if_neg (by decide)]
 omega
def number_r4.T : Bool × List (List Nat × List Nat) := (true, [([], []), ([0], [0]), ([1], [1]), ([2], [2]), ([], []), ([4], [4]), ([5], [5]), ([6], [6]), ([3, 7], [3, 7]), ([8], [8]), ([9, 9, 0, 1, 2, 3, 4, 5, 6, 7, 8, 9], [9])])
def number_r4.B : List Nat := [0, 1, 3, 7, 0, 16, 48, 112, 255, 511, 1023]
theorem number_r4.tab : rtab .any (opsOf Tryz.f61 4) = number_r4.T := p12z
theorem number_r4.bits : waitsOk number_r4.T.2 number_r4.B = true := p12z
def cM.T : Bool × List (List Nat × List Nat) := (true, [([], []), ([0], [0]), ([1], [1]), ([2], [2]), ([], []), ([], []), ([5], [5]), ([6], [6]), ([7], [7]), ([3, 4, 8], [3, 4, 8]), ([9], [9]), ([10, 0, 1, 2, 3, 4, 5, 6, 7, 8, 9, 10], [10])])
def cM.B : List Nat := [0, 1, 3, 7, 0, 0, 32, 96, 224, 511, 1023, 2047]
theorem cM.tab : rtab .any (opsOf Tryz.f61 12) = cM.T := p12z
theorem cM.bits : waitsOk cM.T.2 cM.B = true := p12z
theorem gh (g : Nat) (s : ByteArray) (x many deep : Int) (w0 w : World) (hI : IsS67 w0 w g s x many deep) (hB : Below w0.heap.size w0 w) (h0 : 0 ≤ x) (h1 : x ≤ (s.size : Int)) (hs : s.size ≤ 1099511627776) :
 Calls Tryz.prog 61 #[.pointer (some ⟨g, 0, none⟩)] w fun e w' => NodeOut w0 w w' g s (numberF s x many deep) e := by
 have hI1 : IsS67 w0 (w.alloc (.cells zcells 28)) g s x many deep := hI.alloc _
 have hB1 : Below w0.heap.size w0 (w.alloc (.cells zcells 28)) := below_alloc hB _
 have hK1 : KeepBut w (w.alloc (.cells zcells 28)) g none := keep_alloc (KeepBut.refl w g none) _
 have hblk : (w.alloc (.cells zcells 28)).heap[w.heap.size]? = some (.cells zcells 28 (0, 0)) := heap_alloc_new w _
 have hne : w.heap.size ≠ g := (Nat.ne_of_lt hI.lt).symm
 have hge : w0.heap.size ≤ w.heap.size := hB.size
 have hgg : w0.heap.size ≤ g := hI.ge
 have hz1 := cellS67_1 hI1.1
 have hnow := now_calls hI1 hB1 h0 h1
 have HID := hid (And.intro hK1 (And.intro hblk (And.intro hne hge)))
 clear hK1 hblk hne hge hI1 hB1
 obtain ⟨c, hc⟩ : ∃ c, nowF s x = c := ⟨_, rfl⟩
 obtain ⟨y, hy⟩ : ∃ y, numAt s x = y := ⟨_, rfl⟩
 have hyb := numAt_bd h0 h1
 have hyc : y = if c = 45 then x + 1 else x := by rw [← hy, ← hc]; rfl
 obtain ⟨r, hr⟩ : ∃ r, numberF s x many deep = r := ⟨_, rfl⟩
 rw [hr]
 unfold numberF at hr
 rw [hy] at hr hyb
 rw [hc] at hnow
 clear hc hy
 obtain ⟨y0, y1, y2⟩ := hyb
 have HR := hid hr
 clear hr
 go_enter Tryz.func61, Tryz.ntmps61
 go_upto_if 11 with (go_at_call 62; refine hnow.mono ?_; rintro e w' ⟨rfl, hi, hb, hk⟩; have HH := hid (And.intro hi (And.intro hb (And.intro hk (hk.blk HID.out.2.1 HID.out.2.2.1 (by simp))))); clear hi hb hk)
 go_cut [] (fun wc => Hid (IsS67 w0 wc g s y many deep) ∧ Hid (Below w0.heap.size w0 wc) ∧ Hid (KeepBut w wc g none) ∧ Hid (wc.heap[w.heap.size]? = some (.cells zcells 28 (0, 0))))
 case first =>
  have hc1 := cellS67_1 HH.out.1.1
  have hf1 := blk_frozen HH.out.1.1 1
  by_cases h45 : c = 45
  case neg =>
   have hq : (c == 45) = false := beq_eq_false_iff_ne.mpr h45
   rw [if_neg h45] at hyc
   subst hyc
   clear h45
   go_wp2
   go_meet
   case rel => exact ⟨hid HH.out.1, hid HH.out.2.1, hid (HID.out.1.trans HH.out.2.2.1 (.inl rfl)), hid HH.out.2.2.2⟩
  have hq : (c == 45) = true := beq_iff_eq.mpr h45
  rw [if_pos h45] at hyc
  subst hyc
  clear h45
  go_wp2
  go_meet
  case rel => exact ⟨hid (HH.out.1.set_1 (x + 1)), hid (below_set HH.out.2.1 hgg), hid (KeepBut.set_ (HID.out.1.trans HH.out.2.2.1 (.inl rfl)) 1 _), hid (blk_far (p := ⟨g, 1, none⟩) HH.out.2.2.2 HID.out.2.2.1 _)⟩
 case rest =>
  obtain ⟨hst, hbl, hkp, hbk⟩ := hcut
  clear hnow hz1 HH hyc
  have yz : 0 ≤ y := by omega
  have p6 := eq_true yz
  have q6 := eq_true y1
  have HID2 := hid (And.intro HID.out.2.2 (And.intro hgg (And.intro y0 (And.intro y1 (And.intro y2 yz)))))
  have hlx : 0 ≤ x := h0
  clear HID hgg y0 y1 y2 yz h0 h1
  obtain ⟨u, hu⟩ : ∃ u, s.extract y.toNat s.size = u := ⟨_, rfl⟩
  have hbu : (bytesOf s).drop y.toNat = bytesOf u := by rw [← hu, bytes_ext]
  have hr := HR.out
  clear HR
  rw [hbu] at hr
  have hnl := ndg_le (bytesOf u)
  rw [← hbu, List.length_drop, bytesOf_length] at hnl
  obtain ⟨n, hn⟩ : ∃ n, ndg (bytesOf u) = n := ⟨_, rfl⟩
  have hlen : numLen s y = if nowF s y = 48 then 1 else (n : Int) := by unfold numLen; rw [hbu, hn]
  rw [hbu, hn] at hnl
  rw [hn] at hr
  obtain ⟨L, hL⟩ : ∃ L, numLen s y = L := ⟨_, rfl⟩
  rw [hL] at hr hlen
  obtain ⟨d, hd⟩ : ∃ d, nowF s y = d := ⟨_, rfl⟩
  rw [hd] at hr hlen
  have HR := hid hr
  have HU := hid (And.intro hn (And.intro hnl (And.intro hd hlx)))
  have HLn := hid hlen
  clear hr hbu hn hnl hL hd hlx hlen
  go_wp2_with (fail)
  refine start_ (n := 11) (S := fun w' => w'.cell? ⟨g, 0, none⟩ = some (.string s) ∧ w'.cell? ⟨g, 1, none⟩ = some (.int .i64 y)) (ds := []) (tf 0 11) p12z rfl rfl ⟨(cellS67_0 hst.out.1), (cellS67_1 hst.out.1)⟩ (fun hHeld => ?_); refine with_tabW number_r4.tab number_r4.bits (fun HT_ HW_ => ?_)
  have HX := hid (And.intro hst.out.drew (And.intro (below_drew1 hbl.out) (And.intro (keep_drew hkp.out) hbk.out)))
  have HX2 := hid (show wc.drew.heap[w.heap.size]? = some (.cells zcells 28 (0, 0)) from hbk.out)
  clear hst hbl hkp hbk
  generalize hwd : wc.drew = wd at HX HX2 hHeld ⊢
  refine pzz 0 (some 19) (tf 1 10) ?_
  refine pzz 1 (some 20) (tf 2 9) ?_
  refine pzz 2 (some 21) (tf 3 8) ?_
  refine tzz 3 (some 22) (tf 4 7) ?_
  refine pzz 4 (some 23) (tf 5 6) ?_
  refine pzz 5 (some 24) (tf 6 5) ?_
  refine pzz 6 (some 25) (tf 7 4) ?_
  refine tzz 7 (some 26) (tf 8 3) ?_
  refine pzz 8 (some 27) (tf 9 2) ?_
  refine ozz 9 (some 28) (tf 10 1) #[.string u] Tryz.func87 (fun K hK => ?_)
  with_reducible refine (ee u _).mono ?_
  rintro e w1 ⟨rfl, hb⟩
  refine ⟨_, rfl, ?_⟩
  have hi1 := HX.out.1.below hb
  have hbb1 := (blk_below HX2.out hb)
  have hbl1 := HX.out.2.1.trans (hb.mono HX.out.2.1.size)
  have hkp1 := HX.out.2.2.1.trans (KeepBut.of_below hb g none) (.inl rfl)
  refine hK.out _ _ ⟨(cellS67_0 hi1.1), (cellS67_1 hi1.1)⟩ (fun hHeld => ?_)
  clear hK K
  refine nzz (some 28) ?_
  refine pzz 10 (some 4) (tf 11 0) ?_
  refine done_ (done_of HT_.out p12z) ?_
  rw [HU.out.1]
  have HV := hid (And.intro hi1 (And.intro hbl1 (And.intro hkp1 hbb1)))
  clear hi1 hbl1 hkp1 hbb1 HX HX2 hwd hu
  have hz1 := cellS67_1 HV.out.1.1
  by_cases hn0 : n = 0
  case pos =>
   have hr := HR.out
   rw [if_pos hn0] at hr
   have HR1 := hid hr
   clear hr HR
   subst hn0
   go_wp2_with (go_at_call 31; refine (bE _ _ _).mono ?_; rintro e w' ⟨rfl, rfl⟩)
   exact ⟨rfl, by rw [← HR1.out]; exact ⟨rfl, HV.out.2.1⟩⟩
  have hr := HR.out
  rw [if_neg hn0] at hr
  have HR1 := hid hr
  clear hr HR
  have hq : ((n : Int) == 0) = false := by simpa using hn0
  have HN0 := hid hn0
  clear hn0
  have hnow2 := now_calls HV.out.1 HV.out.2.1 HID2.out.2.2.2.2.2 HID2.out.2.2.2.1
  rw [HU.out.2.2.1] at hnow2
  go_upto_block 0 with (fail)
  go_cut [4] (fun v4 wc => v4 = .int .i64 L ∧ Hid (IsS67 w0 wc g s y many deep) ∧ Hid (Below w0.heap.size w0 wc) ∧ Hid (KeepBut w wc g none) ∧ Hid (wc.heap[w.heap.size]? = some (.cells zcells 28 (0, 0))) ∧ Hid (¬ (¬ d = 48 ∧ 40 < n)))
  case first =>
   by_cases h48 : d = 48
   case pos =>
    have hlen := HLn.out
    rw [if_pos h48] at hlen
    have HL1 := hid hlen
    clear hlen
    have hq2 : (d == 48) = true := beq_iff_eq.mpr h48
    have H48 := hid h48
    clear h48
    go_wp2_with (go_at_call 62; refine hnow2.mono ?_; rintro e w' ⟨rfl, hi, hb, hk⟩; have HH := hid (And.intro hi (And.intro hb (And.intro (HV.out.2.2.1.trans hk (.inl rfl)) (hk.blk HV.out.2.2.2 HID2.out.1.1 (by simp))))); clear hi hb hk)
    go_meet
    case rel => exact ⟨by rw [HL1.out], hid HH.out.1, hid HH.out.2.1, hid HH.out.2.2.1, hid HH.out.2.2.2, hid (fun e => e.1 H48.out)⟩
   have hlen := HLn.out
   rw [if_neg h48] at hlen
   have HL1 := hid hlen
   clear hlen
   have hq2 : (d == 48) = false := beq_eq_false_iff_ne.mpr h48
   have H48 := hid h48
   clear h48
   by_cases h40 : 40 < n
   case neg =>
    have H40 := hid h40
    have hq3 : decide ((n : Int) > 40) = false := decide_eq_false (by omega)
    clear h40
    go_wp2_with (go_at_call 62; refine hnow2.mono ?_; rintro e w' ⟨rfl, hi, hb, hk⟩; have HH := hid (And.intro hi (And.intro hb (And.intro (HV.out.2.2.1.trans hk (.inl rfl)) (hk.blk HV.out.2.2.2 HID2.out.1.1 (by simp))))); clear hi hb hk)
    go_meet
    case rel => exact ⟨by rw [HL1.out], hid HH.out.1, hid HH.out.2.1, hid HH.out.2.2.1, hid HH.out.2.2.2, hid (fun e => H40.out e.2)⟩
   have hr := HR1.out
   rw [if_pos ⟨H48.out, h40⟩] at hr
   have HR2 := hid hr
   clear hr
   have hq3 : decide ((n : Int) > 40) = true := decide_eq_true (by omega)
   clear h40
   go_wp2_with (first
    | (go_at_call 62; refine hnow2.mono ?_; rintro e w' ⟨rfl, hi, hb, hk⟩; have HH := hid (And.intro hi (And.intro hb (And.intro (HV.out.2.2.1.trans hk (.inl rfl)) (hk.blk HV.out.2.2.2 HID2.out.1.1 (by simp))))); clear hi hb hk)
    | (go_at_call 31; refine (bE _ _ _).mono ?_; rintro e w' ⟨rfl, rfl⟩))
   exact ⟨rfl, by rw [← HR2.out]; exact ⟨rfl, HH.out.2.1⟩⟩
  case rest =>
   obtain ⟨rfl, hst, hbl, hkp, hbk, hok⟩ := hcut
   have hr := HR1.out
   rw [if_neg hok.out] at hr
   have hLb : 0 ≤ L ∧ y + L ≤ (s.size : Int) := by
    have h1 := HLn.out
    have h2 := HU.out.2.1
    have h3 := HN0.out
    have h4 := HID2.out.2.2.2.1
    have h5 := HID2.out.2.2.2.2.2
    split at h1 <;> omega
   have hzz : ∃ z, y + L = z := ⟨_, rfl⟩
   obtain ⟨z, hz⟩ := hzz
   rw [hz] at hr hLb
   have HY := hid (And.intro (hst.out.set_1 z) (And.intro (below_set (j := 1) (v := .int .i64 z) hbl.out HID2.out.2.1) (And.intro (KeepBut.set_ hkp.out 1 (.int .i64 z)) (blk_far (p := ⟨g, 1, none⟩) hbk.out HID2.out.1.1 (.int .i64 z)))))
   have hz1' := cellS67_1 hst.out.1
   have hf1' := blk_frozen hst.out.1 1
   have hyz := HID2.out.2.2.2.2.2
   obtain ⟨hL0, hzs⟩ := hLb
   have hzb : z ≤ 1099511627776 := by omega
   have HR2 := hid hr
   have hxz : x ≤ z := by have := HID2.out.2.2.1; omega
   have HB := hid (And.intro hxz (And.intro hzs HU.out.2.2.2))
   have HLS := hid (And.intro hL0 hyz)
   clear hr HR1 hnow2 hz1 hq hst hbl hkp hbk hok HV p6 q6 HN0 HLn hxz hzs
   have hwr : wrap64 z = z := p76z
   clear hL0 hyz
   go_wp2_with (fail)
   generalize hwy : wc.setCell ⟨g, 1, none⟩ (.int .i64 z) = wy at HY ⊢
   clear hwy hwr hz1' hf1'
   have px := eq_true HB.out.2.2
   have pz := eq_true HB.out.1
   have pq := eq_true HB.out.2.1
   refine start_ (n := 12) (S := fun w' => w'.cell? ⟨g, 0, none⟩ = some (.string s) ∧ w'.cell? ⟨g, 1, none⟩ = some (.int .i64 z)) (ds := [11]) (tf 0 12) p12z rfl rfl ⟨(cellS67_0 HY.out.1.1), (cellS67_1 HY.out.1.1)⟩ (fun hHeld => ?_); refine with_tabW cM.tab cM.bits (fun HT_ HW_ => ?_)
   have HZ := hid (And.intro HY.out.1.drew (And.intro (below_drew1 HY.out.2.1) (keep_drew HY.out.2.2.1)))
   have HZ2 := hid (show wy.drew.heap[w.heap.size]? = some (.cells zcells 28 (0, 0)) from HY.out.2.2.2)
   clear HY
   generalize hwd : wy.drew = wz at HZ HZ2 hHeld ⊢
   refine pzz 0 (some 56) (tf 1 11) ?_
   refine pzz 1 (some 57) (tf 2 10) ?_
   refine pzz 2 (some 58) (tf 3 9) ?_
   refine tzz 3 (some 59) (tf 4 8) ?_
   refine pzz 4 (some 60) (tf 5 7) ?_
   refine pzz 5 (some 61) (tf 6 6) ?_
   refine pzz 6 (some 62) (tf 7 5) ?_
   refine pzz 7 (some 63) (tf 8 4) ?_
   refine tzz 8 (some 64) (tf 9 3) ?_
   refine pzz 9 (some 65) (tf 10 2) ?_
   refine pzz 10 (some 66) (tf 11 1) ?_
   refine last_ (i := 11) (N := none) (tf 12 0) rfl rfl (one_of HT_.out p12z) (by decide) (fun K hK => ?_)
   obtain ⟨hc0, hc1, hc2, hc3, hf0, hf1, hf2, hf3⟩ := cells4 HZ2.out
   refine skip_ (w1 := ?_) (by rfl) rfl ?_ ?_
   rotate_left
   ·go_simp
    rfl
   refine hK.out _ _ ?_
   refine done_ (done_of HT_.out p12z) ?_
   go_wp2
   have hst4 := bX HZ.out.1 HZ.out.2.1 HZ.out.2.2 HZ2.out HID2.out.1.1 (Nat.le_refl _) HID2.out.1.2 (.int .i64 4) (.string (s.extract x.toNat z.toNat)) (.slice none 0 0) (.slice none 0 0)
   rw [← HR2.out]
   refine bodyPost_ret (results_cell_row rfl _ _ w.heap.size 28 #[.int .i64 4, .string (s.extract x.toNat z.toNat), .slice none 0 0, .slice none 0 0] (0, 0) _ rfl hst4.1 Tryz.underlying28 rfl p12z) rfl ?_
   exact ⟨_, _, rfl, Kd.R_nil _ _ _ _ _, Kd.R_nil _ _ _ _ _, hst4.2.1, hst4.2.2.1, hst4.2.2.2⟩
end Go.Proofs.YtodnggilomanbaaGreatDoor.Hand
