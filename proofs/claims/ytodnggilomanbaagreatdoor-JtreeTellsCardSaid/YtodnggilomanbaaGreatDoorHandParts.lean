/-
  jtree's reader: parts: what it comes to.
-/
import Derived.Test.YtodnggilomanbaaGreatDoorAp
import Derived.Test.YtodnggilomanbaaGreatDoorHandStep
import Derived.Test.YtodnggilomanbaaGreatDoorHandKey
import Derived.Test.YtodnggilomanbaaGreatDoorHandNum
import Derived.Test.YtodnggilomanbaaGreatDoorHandAa
set_option maxRecDepth 100000
set_option maxHeartbeats 8000000
namespace Go.Proofs.YtodnggilomanbaaGreatDoor.Hand
open Go.RowKit Go.Lib Go.Proofs.YtodnggilomanbaaGreatDoorW.PrintWords Go.Proofs.YtodnggilomanbaaGreatDoorW.PrintLast Go.Proofs.YtodnggilomanbaaGreatDoorW.PrintMore Go.Proofs.YtodnggilomanbaaGreatDoor.PAll
set_option linter.unusedVariables false
set_option linter.unusedSimpArgs false

/-- A node's reader: where it stands, how many nodes were read, how deep; a node and the same behind it, or what is thrown. -/
abbrev NodeFn := Int → Int → Int → Except (Int × Int) (S28 × Int × Int × Int)
def stepK (s : ByteArray) (kind : Int) (keys : List ByteArray) (x : Int) : Except Int (List ByteArray × Int) :=
  if kind = 7 then (match keyF s keys x with
    | .ok (k, y) => .ok (keys ++ [k], y)
    | .error p => .error p)
  else .ok (keys, x)
def partsL (NF : NodeFn) (s : ByteArray) (kind : Int) : Nat → List ByteArray → List S28 → Int → Int → Int → Except (Int × Int) (List ByteArray × List S28 × Int × Int × Int)
  | 0, _, _, _, _, _ => .error (0, 0)
  | n + 1, keys, L, x, many, deep => match stepK s kind keys x with
    | .error p => .error (p, 140)
    | .ok (keys', y) => match NF y many deep with
      | .error e => .error e
      | .ok (nd, z, many', deep') =>
        if nowF s (blanksF s z) = 44 then partsL NF s kind n keys' (L ++ [nd]) (blanksF s z + 1) many' deep'
        else .ok (keys', L ++ [nd], blanksF s z, many', deep')
def partsF (NF : NodeFn) (s : ByteArray) (kind last x many deep : Int) : Except (Int × Int) (S28 × Int × Int × Int) :=
  if nowF s (blanksF s (x + 1)) = last then .ok (⟨kind, ⟨#[]⟩, [], []⟩, blanksF s (x + 1) + 1, many, deep)
  else match partsL NF s kind (s.size + 1) [] [] (blanksF s (x + 1)) many deep with
    | .error e => .error e
    | .ok (keys, L, z, many', deep') => match wordF s [last] z with
      | .ok v => .ok (⟨kind, ⟨#[]⟩, keys, L⟩, v, many', deep')
      | .error p => .error (p, 140)
/-- A node's reader goes on, within the text. -/
def Goes (NF : NodeFn) (s : ByteArray) (D : Int) : Prop := ∀ x many nd z many' deep', 0 ≤ x → x ≤ (s.size : Int) → 0 ≤ many → many ≤ 4000 → NF x many D = .ok (nd, z, many', deep') → x < z ∧ z ≤ (s.size : Int) ∧ 0 ≤ many' ∧ many' ≤ 4000 ∧ deep' = D
theorem stepK_bd {s : ByteArray} {kind x y : Int} {keys keys' : List ByteArray} (h0 : 0 ≤ x) (h1 : x ≤ (s.size : Int)) (h : stepK s kind keys x = .ok (keys', y)) : x ≤ y ∧ y ≤ (s.size : Int) := by
 unfold stepK at h
 split at h
 ·split at h
  ·rename_i k z hk
   cases h
   exact keyF_bd h0 h1 hk
  ·cases h
 ·cases h
  exact ⟨Int.le_refl _, h1⟩
theorem nowF_lt {s : ByteArray} {x c : Int} (h1 : x ≤ (s.size : Int)) (hc : c ≠ 0) (h : nowF s x = c) : x < (s.size : Int) := by
 unfold nowF at h
 split at h
 ·exact absurd h.symm hc
 ·omega
theorem partsL_bd {NF : NodeFn} {s : ByteArray} {D : Int} (hN : Goes NF s D) {kind : Int} : ∀ (n : Nat) {keys keys' : List ByteArray} {L L' : List S28} {x z many many' deep' : Int}, 0 ≤ x → x ≤ (s.size : Int) → 0 ≤ many → many ≤ 4000 → partsL NF s kind n keys L x many D = .ok (keys', L', z, many', deep') → x ≤ z ∧ z ≤ (s.size : Int) ∧ 0 ≤ many' ∧ many' ≤ 4000 ∧ deep' = D
 | 0, _, _, _, _, _, _, _, _, _, _, _, _, _, h => by rw [partsL] at h; cases h
 | n + 1, keys, keys', L, L', x, z, many, many', deep', h0, h1, hm0, hm1, h => by
  rw [partsL] at h
  split at h
  ·cases h
  ·rename_i k y hk
   have h2 := stepK_bd h0 h1 hk
   split at h
   ·cases h
   ·rename_i nd v m d hv
    obtain ⟨h3, h31, h32, h33, rfl⟩ := hN _ _ _ _ _ _ (by omega) h2.2 hm0 hm1 hv
    have h4 := ca (s := s) (x := v) (by omega) h31
    split at h
    ·rename_i h44
     have h5 := nowF_lt h4.2 (by decide) h44
     obtain ⟨h6, h7⟩ := partsL_bd hN n (by omega) (by omega) h32 h33 h
     exact ⟨by omega, h7⟩
    ·cases h
     exact ⟨by omega, by omega, h32, h33, rfl⟩
theorem partsF_bd {NF : NodeFn} {s : ByteArray} {D : Int} (hN : Goes NF s D) {kind last x z many many' deep' : Int} {nd : S28} (hl : last ≠ 0) (h0 : 0 ≤ x) (h1 : x < (s.size : Int)) (hm0 : 0 ≤ many) (hm1 : many ≤ 4000) (h : partsF NF s kind last x many D = .ok (nd, z, many', deep')) : x < z ∧ z ≤ (s.size : Int) ∧ 0 ≤ many' ∧ many' ≤ 4000 ∧ deep' = D := by
 unfold partsF at h
 have hb := ca (s := s) (x := x + 1) (by omega) (by omega)
 split at h
 ·rename_i hn
  have := nowF_lt hb.2 hl hn
  cases h
  exact ⟨by omega, by omega, hm0, hm1, rfl⟩
 ·split at h
  ·cases h
  ·rename_i keys L v m d hv
   obtain ⟨h2, h21, h22⟩ := partsL_bd hN _ (by omega) hb.2 hm0 hm1 hv
   split at h
   ·rename_i v' hw
    have h3 := wordF_bd (by omega) h21 hw
    cases h
    exact ⟨by omega, by omega, h22⟩
   ·cases h
theorem info28 : (Tryz.prog.info? 28).map (fun i => (i.zero, i.size, i.bytes)) = some (some (.agg #[(.int .i64 0), (.string ⟨#[]⟩), (.slice none 0 0), (.slice none 0 0)]), 4, 72) := p12z
theorem info9 : (Tryz.prog.info? 9).map (fun i => (i.zero, i.size, i.bytes)) = some (some (.string ⟨#[]⟩), 1, 16) := p12z
structure PRel (w0 w W : World) (g : Nat) (s : ByteArray) (kind D : Int) (keys : List ByteArray) (L : List S28) (x many : Int) (v2 v3 : Value) : Prop where
  r2 : Kd.R Kd.string 9 W w.heap.size (fun _ => True) v2 keys
  r3 : Kd.R k28 28 W w.heap.size (fun k_ => some k_ ≠ v2.ownBlock ∧ k_ ≠ w.heap.size ∧ k_ ≠ w.heap.size + 1) v3 L
  b1 : W.heap[w.heap.size]? = some (.cells zcells 28 (0, 0))
  b2 : W.heap[w.heap.size + 1]? = some (.cells #[.int .i64 kind, .string ⟨#[]⟩, v2, v3] 28 (0, 0))
  st : IsS67 w0 W g s x many D
  kp : KeepBut w W g none
  bl : Below w0.heap.size w0 W
  x0 : 0 ≤ x
  x1 : x ≤ (s.size : Int)
  m0 : 0 ≤ many
  m1 : many ≤ 4000
theorem PRel.keep {w0 w W W' : World} {g : Nat} {s : ByteArray} {kind D x x' m m' : Int} {keys : List ByteArray} {L : List S28} {v2 v3 : Value} (h : PRel w0 w W g s kind D keys L x m v2 v3) (hg1 : w.heap.size ≠ g) (hg2 : w.heap.size + 1 ≠ g)
    (hk : KeepBut W W' g none) (hi : IsS67 w0 W' g s x' m' D) (hb : Below w0.heap.size w0 W') (x0 : 0 ≤ x') (x1 : x' ≤ (s.size : Int)) (m0 : 0 ≤ m') (m1 : m' ≤ 4000) : PRel w0 w W' g s kind D keys L x' m' v2 v3 :=
  ⟨Kd.R_mono (Kd.R_keep (IsS67.apart h.st h.r2 (by decide)) hk (fun _ hh => hh.2)) (fun _ _ => trivial), Kd.R_mono (Kd.R_keep (IsS67.apart h.st h.r3 (by decide)) hk (fun _ hh => hh.2)) (fun _ hh => hh.1), hk.blk h.b1 hg1 (by simp), hk.blk h.b2 hg2 (by simp), hi, h.kp.trans hk (.inl rfl), hb, x0, x1, m0, m1⟩
def parts_r8.T : Bool × List (List Nat × List Nat) := (true, [([], []), ([0], [0]), ([], []), ([], []), ([3], [3]), ([2, 4], [2, 4]), ([5], [5]), ([1, 6, 5], [1, 6]), ([0, 1, 2, 3, 4, 5, 6, 7], []), ([8, 7, 7, 0, 1, 2, 3, 4, 5, 6, 7], [7, 8])])
def parts_r8.B : List Nat := [0, 1, 0, 0, 8, 28, 60, 127, 255, 511]
theorem parts_r8.tab : rtab .any (opsOf Tryz.f86 8) = parts_r8.T := p12z
theorem parts_r8.bits : waitsOk parts_r8.T.2 parts_r8.B = true := p12z
def parts_r9.T : Bool × List (List Nat × List Nat) := (true, [([], []), ([0], [0]), ([], []), ([2], [2]), ([3], [3]), ([1, 4, 3], [1, 4]), ([0, 1, 2, 3, 4, 5], []), ([6, 5, 5, 0, 1, 2, 3, 4, 5], [5, 6])])
def parts_r9.B : List Nat := [0, 1, 0, 4, 12, 31, 63, 127]
theorem parts_r9.tab : rtab .any (opsOf Tryz.f86 9) = parts_r9.T := p12z
theorem parts_r9.bits : waitsOk parts_r9.T.2 parts_r9.B = true := p12z
theorem eJ (NF : NodeFn) (g : Nat) (s : ByteArray) (kind last x many D : Int) (w0 w : World) (hN : Goes NF s D)
 (hNode : ∀ (W : World) (x many : Int), IsS67 w0 W g s x many D → Below w0.heap.size w0 W → 0 ≤ x → x ≤ (s.size : Int) → 0 ≤ many → many ≤ 4000 → Calls Tryz.prog 29 #[.pointer (some ⟨g, 0, none⟩)] W fun e w' => NodeOut w0 W w' g s (NF x many D) e)
 (hl2 : last = 93 ∨ last = 125) (hI : IsS67 w0 w g s x many D) (hB : Below w0.heap.size w0 w) (h0 : 0 ≤ x) (h1 : x < (s.size : Int)) (hm0 : 0 ≤ many) (hm1 : many ≤ 4000) (hs : s.size ≤ 1073741824) (HTAB : Tabs w0) :
 Calls Tryz.prog 86 #[.pointer (some ⟨g, 0, none⟩), .int .i64 kind, .int .u8 last] w fun e w' => NodeOut w0 w w' g s (partsF NF s kind last x many D) e := by
 have hl : last ≠ 0 := by omega
 obtain ⟨r, hr⟩ : ∃ r, partsF NF s kind last x many D = r := ⟨_, rfl⟩
 rw [hr]
 unfold partsF at hr
 have hb := ca (s := s) (x := x + 1) (by omega) (by omega)
 obtain ⟨y, hy⟩ : ∃ y, blanksF s (x + 1) = y := ⟨_, rfl⟩
 rw [hy] at hr hb
 have y0 : 0 ≤ y := by omega
 have y1 := hb.2
 have HR := hid hr
 have HX := hid (And.intro h0 h1)
 have hwr : wrap64 (x + 1) = x + 1 := p76z
 clear hr
 go_enter Tryz.func86, Tryz.ntmps86
 go_upto_region 2 with (fail)
 generalize hW2 : World.alloc (World.alloc w _) _ = W2
 have hI2 : IsS67 w0 W2 g s x many D := by rw [← hW2]; exact (hI.alloc _).alloc _
 have hB2 : Below w0.heap.size w0 W2 := by rw [← hW2]; exact below_alloc (below_alloc hB _) _
 have hK2 : KeepBut w W2 g none := by rw [← hW2]; exact keep_alloc (keep_alloc (KeepBut.refl w g none) _) _
 have hb1 : W2.heap[w.heap.size]? = some (.cells zcells 28 (0, 0)) := by rw [← hW2]; exact blk_alloc (heap_alloc_new w _) _
 have hb2 : W2.heap[w.heap.size + 1]? = some (.cells #[.int .i64 kind, .string ⟨#[]⟩, .slice none 0 0, .slice none 0 0] 28 (0, 0)) := by
  rw [← hW2]
  have := heap_alloc_new (w.alloc (.cells zcells 28)) (.cells #[.int .i64 kind, .string ⟨#[]⟩, .slice none 0 0, .slice none 0 0] 28)
  simpa using this
 have hng1 : w.heap.size ≠ g := (Nat.ne_of_lt hI.lt).symm
 have hng2 : w.heap.size + 1 ≠ g := by have := hI.lt; omega
 have hge1 : w0.heap.size ≤ w.heap.size := hB.size
 have HG := hid (And.intro hng1 (And.intro hng2 hge1))
 have hz1 := cellS67_1 hI2.1
 have hf1 := blk_frozen hI2.1 1
 have hbl := cx g s (x + 1) many D w0 _ (hI2.set_1 (x + 1)) (below_set (j := 1) (v := .int .i64 (x + 1)) hB2 hI2.2) (by omega) (by omega) (by omega)
 rw [hy] at hbl
 have HK3 := hid (And.intro (KeepBut.set_ hK2 1 (.int .i64 (x + 1))) (And.intro (blk_far (p := ⟨g, 1, none⟩) hb1 hng1 (.int .i64 (x + 1))) (blk_far (p := ⟨g, 1, none⟩) hb2 hng2 (.int .i64 (x + 1)))))
 clear hW2 hI hB hb hI2 hB2 hK2 hb1 hb2 hng1 hng2 hge1
 go_upto_if 22 with (first
  | (go_at_call 30; refine hbl.mono ?_; rintro e w4 ⟨rfl, hi4, hb4, hk4⟩; have hnow := now_calls hi4 hb4 y0 y1; have HK4 := hid (And.intro (HK3.out.1.trans hk4 (.inl rfl)) (And.intro (hk4.blk HK3.out.2.1 HG.out.1 (by simp)) (hk4.blk HK3.out.2.2 HG.out.2.1 (by simp)))); clear HK3 hi4 hb4 hk4)
  | (go_at_call 62; refine hnow.mono ?_; rintro e w5 ⟨rfl, hi5, hb5, hk5⟩; have HK5 := hid (And.intro (HK4.out.1.trans hk5 (.inl rfl)) (And.intro (hk5.blk HK4.out.2.1 HG.out.1 (by simp)) (hk5.blk HK4.out.2.2 HG.out.2.1 (by simp)))); have HI5 := hid (And.intro hi5 hb5); clear HK4 hi5 hb5 hk5))
 have HR1 := HR.out
 clear HR
 obtain ⟨nw, hnw⟩ : ∃ c, nowF s y = c := ⟨_, rfl⟩
 rw [hnw] at HR1 ⊢
 by_cases hlast : nw = last
 case pos =>
  rw [if_pos hlast] at HR1
  have hq1 : (nw == last) = true := beq_iff_eq.mpr hlast
  have hyl : y < (s.size : Int) := nowF_lt y1 hl (hnw.trans hlast)
  have hw2 : wrap64 (y + 1) = y + 1 := p76z
  have hz1 := cellS67_1 HI5.out.1.1
  have hf1 := blk_frozen HI5.out.1.1 1
  have B1 := blk_far (p := ⟨g, 1, none⟩) HK5.out.2.1 HG.out.1 (.int .i64 (y + 1))
  have B2 := blk_far (p := ⟨g, 1, none⟩) HK5.out.2.2 HG.out.2.1 (.int .i64 (y + 1))
  obtain ⟨hc0, hc1, hc2, hc3, -⟩ := cells4 B1
  obtain ⟨hd0, hd1, hd2, hd3, -⟩ := cells4 B2
  have he0 := blk_frozen B1 0
  have he1 := blk_frozen B1 1
  have he2 := blk_frozen B1 2
  have he3 := blk_frozen B1 3
  have HB1 := hid B1
  clear B1 B2 hlast hnw hyl
  go_wp2
  have hst := bX (HI5.out.1.set_1 (y + 1)) (below_set (j := 1) (v := .int .i64 (y + 1)) HI5.out.2 HI5.out.1.2) (KeepBut.set_ HK5.out.1 1 (.int .i64 (y + 1))) HB1.out HG.out.1 (Nat.le_refl _) HG.out.2.2 (.int .i64 kind) (.string ⟨#[]⟩) (.slice none 0 0) (.slice none 0 0)
  rw [← HR1]
  refine bodyPost_ret (results_cell_row rfl _ _ w.heap.size 28 #[.int .i64 kind, .string ⟨#[]⟩, .slice none 0 0, .slice none 0 0] (0, 0) _ rfl hst.1 Tryz.underlying28 rfl p12z) rfl ?_
  exact ⟨_, _, rfl, Kd.R_nil _ _ _ _ _, Kd.R_nil _ _ _ _ _, hst.2.1, hst.2.2.1, hst.2.2.2⟩
 rw [if_neg hlast] at HR1
 have hq1 : (nw == last) = false := beq_eq_false_iff_ne.mpr hlast
 rw [hq1]
 obtain ⟨RL, hRL⟩ : ∃ RL, partsL NF s kind (s.size + 1) [] [] y many D = RL := ⟨_, rfl⟩
 rw [hRL] at HR1
 have HR2 := hid HR1
 clear HR1 hlast hnw
 go_wp2
 go_loopg [] (s.size + 1) (fun kq W => ∃ (keys : List ByteArray) (L : List S28) (z m : Int) (v2 v3 : Value), PRel w0 w W g s kind D keys L z m v2 v3 ∧ partsL NF s kind kq keys L z m D = RL ∧ (s.size : Int) - z < kq ∧ (keys.length : Int) ≤ z ∧ (L.length : Int) ≤ z)
 case atStart => exact ⟨[], [], y, many, .slice none 0 0, .slice none 0 0, ⟨Kd.R_nil _ _ _ _ _, Kd.R_nil _ _ _ _ _, HK5.out.2.1, HK5.out.2.2, HI5.out.1, HK5.out.1, HI5.out.2, y0, y1, hm0, hm1⟩, hRL, by omega, by simpa using y0, by simpa using y0⟩
 case round =>
  obtain ⟨keys, L, z, m, v2, v3, hP, hL, hfu, hkl, hll⟩ := hrel
  clear hq1
  cases gk with
  | zero => have := hP.x1; omega
  | succ n =>
   rw [partsL] at hL
   have HP := hid hP
   have HLL := hid hL
   clear hP hL hRL
   go_upto_if 32 with (fail)
   go_cut [] (fun wc => ∃ (keys2 : List ByteArray) (v2 : Value) (z2 : Int), stepK s kind keys z = .ok (keys2, z2) ∧ PRel w0 w wc g s kind D keys2 L z2 m v2 v3 ∧ (keys2.length : Int) ≤ z + 1)
   case first =>
    by_cases hk7 : kind = 7
    case neg =>
     have hq7 : (kind == 7) = false := beq_eq_false_iff_ne.mpr hk7
     go_wp2
     go_meet
     case rel => exact ⟨keys, v2, z, by unfold stepK; rw [if_neg hk7], HP.out, by omega⟩
    have hq7 : (kind == 7) = true := beq_iff_eq.mpr hk7
    have hz0 := HP.out.x0
    have hz1 := HP.out.x1
    have hkb : keys.length ≤ 1073741824 := by omega
    have HLEN := hid hkb
    have NB101_0 := Aside0.mk HG.out.1
    have NB102_0 := Aside0.mk HG.out.2.1
    have NB0_101 := Aside0.mk (Ne.symm HG.out.1)
    have NB0_102 := Aside0.mk (Ne.symm HG.out.2.1)
    have NB101_102 := Aside0.mk (show w.heap.size ≠ w.heap.size + 1 by omega)
    have NB102_101 := Aside0.mk (show w.heap.size + 1 ≠ w.heap.size by omega)
    have HLx := HG.out.2.2
    have gO := Aside0.mk HLx
    have iW := Aside0.mk (show w0.heap.size ≤ w.heap.size + 1 by omega)
    have GW101 := Aside0.mk (Nat.le_refl w.heap.size)
    have GW102 := Aside0.mk (Nat.le_succ w.heap.size)
    have HL := Aside0.mk HLx
    have bj := Aside0.mk (Kd.R_drew HP.out.r2)
    have bo := Aside0.mk (Kd.R_drew HP.out.r3)
    have ct := Aside0.mk (blk_drew HP.out.b1)
    have aZ := Aside0.mk (blk_drew HP.out.b2)
    have HI0 := Aside0.mk (IsS67.drew HP.out.st)
    have HK := Aside0.mk (keep_drew HP.out.kp)
    have HB := Aside0.mk (below_drew1 HP.out.bl)
    have HM := hid (And.intro HP.out.m0 HP.out.m1)
    obtain ⟨eR, co32, eo32⟩ := Kd.R_slice bj.out
    subst eo32
    have hcall0 := key_calls g s z m D eR co32 keys w0 wr.drew HI0.out HB.out hz0 hz1 hs HTAB (Kd.C_foot_own (IsS67.apart HI0.out bj.out (by decide)) (fun _ h => h.2)) (by omega)
    clear HLx hkb HP
    go_wp2
    rcases hky : keyF s keys z with p | ⟨k, z2⟩
    ·rw [hky] at hcall0
     have hsk : stepK s kind keys z = .error p := by unfold stepK; rw [if_pos hk7, hky]
     have hcall := Aside0.mk hcall0
     clear hcall0
     refine start_ (n := 10) (S := fun w' => w'.cell? ⟨w.heap.size + 1, 0, none⟩ = some (.int .i64 kind) ∧ w'.cell? ⟨w.heap.size + 1, 1, none⟩ = some (.string (⟨#[]⟩ : ByteArray)) ∧ w'.cell? ⟨w.heap.size + 1, 2, none⟩ = some (.slice eR keys.length co32) ∧ w'.cell? ⟨w.heap.size + 1, 3, none⟩ = some (v3)) (ds := [9]) (tf 0 10) p12z rfl rfl ⟨(blk_cell aZ.out 0).trans rfl, (blk_cell aZ.out 1).trans rfl, (blk_cell aZ.out 2).trans rfl, (blk_cell aZ.out 3).trans rfl⟩ (fun hHeld => ?_); refine with_tabW parts_r8.tab parts_r8.bits (fun HT_ HW_ => ?_)
     generalize wr.drew = w31 at hcall bj bo ct aZ HI0 HK HB hHeld ⊢
     refine pzz 0 (some 33) (tf 1 9) ?_
     refine pzz 2 (some 35) (tfs true [1, 1, 1, 7]) ?_
     refine pzz 3 (some 36) (tfs true [1, 1, 2, 6]) ?_
     refine tzz 1 (some 34) (tf 4 6) ?_
     refine tzz 4 (some 37) (tf 5 5) ?_
     refine one_ (i := 5) (N := some 38) (tf 6 4) rfl rfl (one_of HT_.out p12z) (by decide) (fun K hK => ?_)
     refine goesE_ Tryz.func103 p12z rfl #[.pointer (some ⟨g, 0, none⟩), .slice eR keys.length co32] (by rfl) rfl rfl p3z ?_
     with_reducible refine (hcall.out).mono ?_
     rintro e w33 ⟨rfl, hb9⟩
     refine Or.inr ⟨_, rfl, ?_⟩
     have hL := HLL.out
     rw [hsk] at hL
     simp only at hL
     have hr := HR2.out
     rw [← hL] at hr
     simp only at hr
     exact ⟨rfl, by rw [← hr]; exact ⟨rfl, hb9⟩⟩
    ·rw [hky] at hcall0
     have hsk : stepK s kind keys z = .ok (keys ++ [k], z2) := by unfold stepK; rw [if_pos hk7, hky]
     have hcall := Aside0.mk hcall0
     clear hcall0
     refine start_ (n := 10) (S := fun w' => w'.cell? ⟨w.heap.size + 1, 0, none⟩ = some (.int .i64 kind) ∧ w'.cell? ⟨w.heap.size + 1, 1, none⟩ = some (.string (⟨#[]⟩ : ByteArray)) ∧ w'.cell? ⟨w.heap.size + 1, 2, none⟩ = some (.slice eR keys.length co32) ∧ w'.cell? ⟨w.heap.size + 1, 3, none⟩ = some (v3)) (ds := [9]) (tf 0 10) p12z rfl rfl ⟨(blk_cell aZ.out 0).trans rfl, (blk_cell aZ.out 1).trans rfl, (blk_cell aZ.out 2).trans rfl, (blk_cell aZ.out 3).trans rfl⟩ (fun hHeld => ?_); refine with_tabW parts_r8.tab parts_r8.bits (fun HT_ HW_ => ?_)
     generalize wr.drew = w31 at hcall bj bo ct aZ HI0 HK HB hHeld ⊢
     refine pzz 0 (some 33) (tf 1 9) ?_
     refine pzz 2 (some 35) (tfs true [1, 1, 1, 7]) ?_
     refine pzz 3 (some 36) (tfs true [1, 1, 2, 6]) ?_
     refine tzz 1 (some 34) (tf 4 6) ?_
     refine tzz 4 (some 37) (tf 5 5) ?_
     refine ozz 5 (some 38) (tf 6 4) #[.pointer (some ⟨g, 0, none⟩), .slice eR keys.length co32] Tryz.func103 (fun K hK => ?_)
     with_reducible refine (hcall.out).mono ?_
     rintro e w33 ⟨rfl, hi, hb, hk⟩
     refine ⟨_, rfl, ?_⟩
     have n0_ := Aside0.mk (Kd.R_mono (Kd.R_keep (IsS67.apart (show IsS67 w0 _ g s z m D from p27z) p57z (by decide)) hk (fun _ h => h.2)) (fun _ h => h.1))
     have n1_ := Aside0.mk (Kd.R_mono (Kd.R_keep (IsS67.apart (show IsS67 w0 _ g s z m D from p27z) p88z (by decide)) hk (fun _ h => h.2)) (fun _ h => h.1))
     have n2_ := Aside0.mk (KeepBut.blk hk (g' := w.heap.size) (o := .cells #[.int .i64 0, .string (⟨#[]⟩ : ByteArray), .slice none 0 0, .slice none 0 0] 28 (0, 0)) p32z NB101_0.out (by simp))
     have n3_ := Aside0.mk (KeepBut.blk hk (g' := (w.heap.size + 1)) (o := .cells #[(.int .i64 kind), .string (⟨#[]⟩ : ByteArray), .slice eR keys.length co32, v3] 28 (0, 0)) p60z NB102_0.out (by simp))
     have n4_ := Aside0.mk (KeepBut.trans p25z hk (.inl rfl))
     have n5_ := Aside0.mk (hb)
     have n6_ := Aside0.mk (hi)
     clear bj
     clear bo
     clear ct
     clear aZ
     clear HK
     clear HB
     clear HI0
     have bj := n0_
     have bo := n1_
     have ct := n2_
     have aZ := n3_
     have HK := n4_
     have HB := n5_
     have HI0 := n6_
     clear n0_ n1_ n2_ n3_ n4_ n5_ n6_
     (try clear hb)
     (try clear hb2)
     (try clear hk)
     (try clear hi)
     refine hK.out _ _ ⟨(blk_cell aZ.out 0).trans rfl, (blk_cell aZ.out 1).trans rfl, (blk_cell aZ.out 2).trans rfl, (blk_cell aZ.out 3).trans rfl⟩ (fun hHeld => ?_)
     clear hK K
     refine nzz (some 38) ?_
     refine one_ (i := 6) (N := some 39) (tf 7 3) rfl rfl (one_of HT_.out p12z) (by decide) (fun K hK => ?_)
     refine value_ (w1 := ?_) (v := ?_) (by rfl) rfl ?_ ?_
     rotate_left 2
     ·go_simp
      constructor
      ·rfl
      ·rfl
     refine hK.out _ _ ⟨(blk_cell (blk_alloc aZ.out _) 0).trans rfl, (blk_cell (blk_alloc aZ.out _) 1).trans rfl, (blk_cell (blk_alloc aZ.out _) 2).trans rfl, (blk_cell (blk_alloc aZ.out _) 3).trans rfl⟩ (fun hHeld => ?_)
     clear hK K
     refine nzz (some 39) ?_
     refine one_ (i := 7) (N := some 40) (tf 8 2) rfl rfl (one_of HT_.out p12z) (by decide) (fun K hK => ?_)
     refine Kd.R_append_step Kd.string w.heap.size (by rfl) (.tmp 34) (.tmp 39) 22 9 (.string ⟨#[]⟩) 16 rfl Tryz.underlying22 info9 rfl (by decide) (by omega) (.slice eR keys.length co32) keys k [.string k] (fun _ => True) (fun _ => False) rfl rfl ?aP (fun _ hk => hk.elim) ?aF ?aO (Below.refl _ _) ?aS ?aL ?_
     (case aP => exact rfl)
     (case aF => exact (fun _ _ => trivial))
     (case aO => exact p57z)
     (case aS => exact (keep_size (w := w) (g := g) (row := none) p25z))
     (case aL => have := HLEN.out; omega)
     intro v118 w34 ho hb hg hat
     have n0_ := Aside0.mk (Kd.R_after (ok := (fun k_ => k_ ≠ w.heap.size ∧ k_ ≠ (w.heap.size + 1))) (by (with_reducible repeat (first | apply Kd.R_alloc | apply Kd.R_drewN | apply Kd.R_drew)); exact Kd.R_mono bo.out (fun _ hk => ⟨⟨hk.2.1, hk.2.2⟩, hk.1⟩)) hg hat)
     have n1_ := Aside0.mk (blk_grown (g := w.heap.size) (o := .cells #[.int .i64 0, .string (⟨#[]⟩ : ByteArray), .slice none 0 0, .slice none 0 0] 28 (0, 0)) p32z hg (Kd.R_ne bj.out ct.out (by decide)))
     have n2_ := Aside0.mk (blk_grown (g := (w.heap.size + 1)) (o := .cells #[(.int .i64 kind), .string (⟨#[]⟩ : ByteArray), .slice eR keys.length co32, v3] 28 (0, 0)) p60z hg (Kd.R_ne bj.out aZ.out (by decide)))
     have n3_ := Aside0.mk (IsS67.grown p27z hg (IsS67.own_ne HI0.out bj.out (by decide)))
     have n4_ := Aside0.mk (below_weaken p99z HL.out hb)
     have n5_ := Aside0.mk (KeepBut.trans p25z (KeepBut.of_grown hg g) (Kd.R_base2 bj.out))
     have n6_ := Aside0.mk (ho)
     clear bo
     clear ct
     clear aZ
     clear HI0
     clear HB
     clear HK
     clear bj
     have bo := n0_
     have ct := n1_
     have aZ := n2_
     have HI0 := n3_
     have HB := n4_
     have HK := n5_
     have HO119 := n6_
     clear n0_ n1_ n2_ n3_ n4_ n5_ n6_
     clear ho hb hg hat
     obtain ⟨i6, co35, eo35⟩ := Kd.R_slice HO119.out
     (first | subst eo35 | (injection eo35 with f1_ f2_ f3_; have f4_ := f1_.symm; have f5_ := f3_.symm; clear f1_ f2_ f3_; subst f4_; subst f5_))
     refine hK.out _ _ ⟨(blk_cell aZ.out 0).trans rfl, (blk_cell aZ.out 1).trans rfl, (blk_cell aZ.out 2).trans rfl, (blk_cell aZ.out 3).trans rfl⟩ (fun hHeld => ?_)
     clear hK K
     refine nzz (some 40) ?_
     refine pzz 8 (some 41) (tf 9 1) ?_
     refine last_ (i := 9) (N := none) (tf 10 0) rfl rfl (one_of HT_.out p12z) (by decide) (fun K hK => ?_)
     have hs36 : w34.cell? ⟨w.heap.size + 1, 2, none⟩ = some (.slice eR keys.length co32) := (blk_cell aZ.out 2).trans rfl
     have hfs36 := blk_frozen aZ.out 2
     have hns36_0 := NB101_102.out
     have hms36_0 := NB102_101.out
     refine skip_ (w1 := ?_) (by rfl) rfl ?_ ?_
     rotate_left
     ·go_simp
      rfl
     refine hK.out _ _ ?_
     clear hK K
     refine done_ (done_of HT_.out p12z) ?_
     go_wp2
     go_meet
     case rel =>
      have hzk := keyF_bd hz0 hz1 hky
      have eL : (keys ++ [k]).length = keys.length + 1 := by simp
      have hr2 := Kd.R_mono (Kd.R_far (p := ⟨w.heap.size + 1, 2, none⟩) (Kd.R_types HO119.out aZ.out (by decide)) (fun _ hk => hk.2) (.slice i6 (keys.length + 1) co35)) (ok' := fun _ => True) (fun _ _ => trivial)
      rw [eL] at hr2
      have hr3 := Kd.R_far (p := ⟨w.heap.size + 1, 2, none⟩) bo.out (fun _ hk => hk.1.2) (.slice i6 (keys.length + 1) co35)
      refine ⟨keys ++ [k], .slice i6 (keys.length + 1) co35, z2, hsk, ⟨?_, ?_, ?_, ?_, ?_, ?_, ?_, by omega, by omega, HM.out.1, HM.out.2⟩, by rw [eL]; omega⟩
      ·first | exact hr2 | simpa using hr2
      ·refine Kd.R_mono hr3 (fun k_ hk => ⟨?_, hk.1.1, hk.1.2⟩)
       have h9 := hk.2
       rwa [eL] at h9
      ·exact blk_far (p := ⟨w.heap.size + 1, 2, none⟩) ct.out NB101_102.out _
      ·exact blk_put (cs := #[.int .i64 kind, .string ⟨#[]⟩, .slice eR keys.length co32, v3]) aZ.out 2 _ rfl
      ·exact HI0.out.far NB0_102.out _
      ·exact keep_far HK.out GW102.out _
      ·exact below_set HB.out iW.out
   case rest =>
    obtain ⟨keys2, u2, z2, hst, hP2, hkl2⟩ := hcut
    have hL := HLL.out
    rw [hst] at hL
    simp only at hL
    have hzz := (stepK_bd HP.out.x0 HP.out.x1 hst).1
    have HZZ := hid hzz
    have hLs : L.length ≤ 1073741824 := by have := HP.out.x1; omega
    have HLEN := hid hLs
    have HST := hid (And.intro hst (And.intro hkl2 (And.intro hfu (And.intro hkl hll))))
    clear hll hst hkl2 hfu hkl HP HLL hLs hzz
    have NB101_0 := Aside0.mk HG.out.1
    have NB102_0 := Aside0.mk HG.out.2.1
    have NB0_101 := Aside0.mk (Ne.symm HG.out.1)
    have NB0_102 := Aside0.mk (Ne.symm HG.out.2.1)
    have NB101_102 := Aside0.mk (show w.heap.size ≠ w.heap.size + 1 by omega)
    have NB102_101 := Aside0.mk (show w.heap.size + 1 ≠ w.heap.size by omega)
    have HLx := HG.out.2.2
    have gO := Aside0.mk HLx
    have iW := Aside0.mk (show w0.heap.size ≤ w.heap.size + 1 by omega)
    have GW101 := Aside0.mk (Nat.le_refl w.heap.size)
    have GW102 := Aside0.mk (Nat.le_succ w.heap.size)
    have HL := Aside0.mk HLx
    have bj := Aside0.mk (Kd.R_drew hP2.r2)
    have bo := Aside0.mk (Kd.R_drew hP2.r3)
    have ct := Aside0.mk (blk_drew hP2.b1)
    have aZ := Aside0.mk (blk_drew hP2.b2)
    have HI0 := Aside0.mk (IsS67.drew hP2.st)
    have HK := Aside0.mk (keep_drew hP2.kp)
    have HB := Aside0.mk (below_drew1 hP2.bl)
    have HZ2 := hid (And.intro hP2.x0 (And.intro hP2.x1 (And.intro hP2.m0 hP2.m1)))
    have hcall0 := hNode wc.drew z2 m HI0.out HB.out hP2.x0 hP2.x1 hP2.m0 hP2.m1
    clear hP2 HLx
    go_wp2
    rcases hNF : NF z2 m D with ⟨p, c⟩ | ⟨nd, z3, m3, d3⟩
    ·rw [hNF] at hcall0 hL
     have hcall := Aside0.mk hcall0
     clear hcall0
     refine start_ (n := 8) (S := fun w' => w'.cell? ⟨w.heap.size + 1, 0, none⟩ = some (.int .i64 kind) ∧ w'.cell? ⟨w.heap.size + 1, 1, none⟩ = some (.string (⟨#[]⟩ : ByteArray)) ∧ w'.cell? ⟨w.heap.size + 1, 2, none⟩ = some (u2) ∧ w'.cell? ⟨w.heap.size + 1, 3, none⟩ = some (v3)) (ds := [7]) (tf 0 8) p12z rfl rfl ⟨(blk_cell aZ.out 0).trans rfl, (blk_cell aZ.out 1).trans rfl, (blk_cell aZ.out 2).trans rfl, (blk_cell aZ.out 3).trans rfl⟩ (fun hHeld => ?_); refine with_tabW parts_r9.tab parts_r9.bits (fun HT_ HW_ => ?_)
     generalize wc.drew = w42 at hcall bj bo ct aZ HI0 HK HB hHeld ⊢
     refine pzz 0 (some 42) (tf 1 7) ?_
     refine pzz 2 (some 44) (tfs true [1, 1, 1, 5]) ?_
     refine tzz 1 (some 43) (tf 3 5) ?_
     refine one_ (i := 3) (N := some 45) (tf 4 4) rfl rfl (one_of HT_.out p12z) (by decide) (fun K hK => ?_)
     refine goesE_ Tryz.func29 p12z rfl #[.pointer (some ⟨g, 0, none⟩)] (by rfl) rfl rfl p3z ?_
     with_reducible refine (hcall.out).mono ?_
     rintro e w43 ⟨rfl, hb9⟩
     refine Or.inr ⟨_, rfl, ?_⟩
     have hr := HR2.out
     simp only at hL
     rw [← hL] at hr
     simp only at hr
     exact ⟨rfl, by rw [← hr]; exact ⟨rfl, hb9⟩⟩
    ·rw [hNF] at hcall0 hL
     have hcall := Aside0.mk hcall0
     clear hcall0
     refine start_ (n := 8) (S := fun w' => w'.cell? ⟨w.heap.size + 1, 0, none⟩ = some (.int .i64 kind) ∧ w'.cell? ⟨w.heap.size + 1, 1, none⟩ = some (.string (⟨#[]⟩ : ByteArray)) ∧ w'.cell? ⟨w.heap.size + 1, 2, none⟩ = some (u2) ∧ w'.cell? ⟨w.heap.size + 1, 3, none⟩ = some (v3)) (ds := [7]) (tf 0 8) p12z rfl rfl ⟨(blk_cell aZ.out 0).trans rfl, (blk_cell aZ.out 1).trans rfl, (blk_cell aZ.out 2).trans rfl, (blk_cell aZ.out 3).trans rfl⟩ (fun hHeld => ?_); refine with_tabW parts_r9.tab parts_r9.bits (fun HT_ HW_ => ?_)
     generalize wc.drew = w42 at hcall bj bo ct aZ HI0 HK HB hHeld ⊢
     refine pzz 0 (some 42) (tf 1 7) ?_
     refine pzz 2 (some 44) (tfs true [1, 1, 1, 5]) ?_
     refine tzz 1 (some 43) (tf 3 5) ?_
     refine ozz 3 (some 45) (tf 4 4) #[.pointer (some ⟨g, 0, none⟩)] Tryz.func29 (fun K hK => ?_)
     with_reducible refine (hcall.out).mono ?_
     rintro e w43 ⟨v123, v126, rfl, ho0, ho1, hi, hb, hk⟩
     refine ⟨_, rfl, ?_⟩
     have n0_ := Aside0.mk (Kd.R_mono (Kd.R_told (Kd.R_oldK (IsS67.apart (show IsS67 w0 _ g s z2 m D from p27z) p57z (by decide)) hk) (Kd.R_base ho0)) (fun _ h_ => h_.1))
     have n1_ := Aside0.mk (Kd.R_mono (Kd.R_told (Kd.R_told (Kd.R_oldK (IsS67.apart (show IsS67 w0 _ g s z2 m D from p27z) p88z (by decide)) hk) (Kd.R_base ho0)) (Kd.R_base ho1)) (fun _ h_ => h_.1))
     have n2_ := Aside0.mk (KeepBut.blk hk (g' := w.heap.size) (o := .cells #[.int .i64 0, .string (⟨#[]⟩ : ByteArray), .slice none 0 0, .slice none 0 0] 28 (0, 0)) p32z NB101_0.out (by simp))
     have n3_ := Aside0.mk (KeepBut.blk hk (g' := (w.heap.size + 1)) (o := .cells #[(.int .i64 kind), .string (⟨#[]⟩ : ByteArray), u2, v3] 28 (0, 0)) p60z NB102_0.out (by simp))
     have n4_ := Aside0.mk (Kd.R_lower (Kd.R_new' ho0 (Kd.R_lt p57z)) (keep_size (w := w) (g := g) (row := none) p25z))
     have n5_ := Aside0.mk (Kd.R_lower (Kd.R_newB (Kd.R_newB (Kd.R_new' (Kd.R_new' ho1 (Kd.R_lt p57z)) (Kd.R_lt p88z)) (g := w.heap.size) (o := .cells #[.int .i64 0, .string (⟨#[]⟩ : ByteArray), .slice none 0 0, .slice none 0 0] 28 (0, 0)) p32z) (g := (w.heap.size + 1)) (o := .cells #[(.int .i64 kind), .string (⟨#[]⟩ : ByteArray), u2, v3] 28 (0, 0)) p60z) (keep_size (w := w) (g := g) (row := none) p25z))
     have n6_ := Aside0.mk (KeepBut.trans p25z hk (.inl rfl))
     have n7_ := Aside0.mk (hb)
     have n8_ := Aside0.mk (hi)
     clear bj
     clear bo
     clear ct
     clear aZ
     clear HK
     clear HB
     clear HI0
     have bj := n0_
     have bo := n1_
     have ct := n2_
     have aZ := n3_
     have jH := n4_
     have jI := n5_
     have HK := n6_
     have HB := n7_
     have HI0 := n8_
     clear n0_ n1_ n2_ n3_ n4_ n5_ n6_ n7_ n8_
     (try clear hb)
     (try clear hb2)
     (try clear hk)
     (try clear hi)
     (try clear ho0)
     (try clear ho1)
     obtain ⟨Ao45, co45, eo45⟩ := Kd.R_slice jH.out
     (first | subst eo45 | (injection eo45 with f1_ f2_ f3_; have f4_ := f1_.symm; have f5_ := f3_.symm; clear f1_ f2_ f3_; subst f4_; subst f5_))
     obtain ⟨Ao46, co46, eo46⟩ := Kd.R_slice jI.out
     (first | subst eo46 | (injection eo46 with f1_ f2_ f3_; have f4_ := f1_.symm; have f5_ := f3_.symm; clear f1_ f2_ f3_; subst f4_; subst f5_))
     refine hK.out _ _ ⟨(blk_cell aZ.out 0).trans rfl, (blk_cell aZ.out 1).trans rfl, (blk_cell aZ.out 2).trans rfl, (blk_cell aZ.out 3).trans rfl⟩ (fun hHeld => ?_)
     clear hK K
     refine nzz (some 45) ?_
     refine one_ (i := 4) (N := some 46) (tf 5 3) rfl rfl (one_of HT_.out p12z) (by decide) (fun K hK => ?_)
     refine value_ (w1 := ?_) (v := ?_) (by rfl) rfl ?_ ?_
     rotate_left 2
     ·go_simp
      constructor
      ·rfl
      ·rfl
     refine hK.out _ _ ⟨(blk_cell (blk_alloc aZ.out _) 0).trans rfl, (blk_cell (blk_alloc aZ.out _) 1).trans rfl, (blk_cell (blk_alloc aZ.out _) 2).trans rfl, (blk_cell (blk_alloc aZ.out _) 3).trans rfl⟩ (fun hHeld => ?_)
     clear hK K
     refine nzz (some 46) ?_
     refine one_ (i := 5) (N := some 47) (tf 6 2) rfl rfl (one_of HT_.out p12z) (by decide) (fun K hK => ?_)
     refine Kd.R_append_step k28 w.heap.size (by rfl) (.tmp 43) (.tmp 46) 26 28 (.agg #[(.int .i64 0), (.string ⟨#[]⟩), (.slice none 0 0), (.slice none 0 0)]) 72 rfl Tryz.underlying26 info28 rfl (by decide) (by omega) v3 L (nd : S28) [.int .i64 nd.f0, .string nd.f1, .slice Ao45 nd.f2.length co45, .slice Ao46 nd.f3.length co46] (fun k_ => some k_ ≠ (u2 : Value).ownBlock ∧ k_ ≠ w.heap.size ∧ k_ ≠ (w.heap.size + 1)) (fun k_ => ((fun k_ => some k_ ≠ (u2 : Value).ownBlock ∧ k_ ≠ w.heap.size ∧ k_ ≠ (w.heap.size + 1))) k_ ∧ some k_ ≠ (v3 : Value).ownBlock) rfl rfl ?aP (fun _ hk => hk) ?aF ?aO (Below.refl _ _) ?aS ?aL ?_
     (case aP => exact k28_mkM _ _ _ (nd : S28) (Kd.R_mono (Kd.R_types (Kd.R_types (Kd.R_apart' (jH.out) (Kd.R_typed bo.out) (by decide)) ct.out (by decide)) aZ.out (by decide)) (fun k_ hk => ⟨⟨hk.1.1.1.2, ⟨hk.1.2, hk.2⟩⟩, hk.1.1.2⟩)) (Kd.R_mono (jI.out) (fun k_ hk => ⟨⟨hk.1.1.1.2, ⟨hk.1.2, hk.2⟩⟩, hk.1.1.2⟩)))
     (case aF => exact (fun k_ hk => ⟨Kd.fresh' (Kd.R_lt p57z) k_ hk, Kd.freshB (g := w.heap.size) (o := .cells #[.int .i64 0, .string (⟨#[]⟩ : ByteArray), .slice none 0 0, .slice none 0 0] 28 (0, 0)) p32z k_ hk, Kd.freshB (g := (w.heap.size + 1)) (o := .cells #[(.int .i64 kind), .string (⟨#[]⟩ : ByteArray), u2, v3] 28 (0, 0)) p60z k_ hk⟩))
     (case aO => exact (by (with_reducible repeat (first | apply Kd.R_alloc | apply Kd.R_drewN | apply Kd.R_drew)); exact Kd.R_mono bo.out (fun _ hk => ⟨hk.1.1.1, ⟨hk.1.1.2.1, hk.1.1.2.2⟩⟩)))
     (case aS => exact (keep_size (w := w) (g := g) (row := none) p25z))
     (case aL => have := HLEN.out; omega)
     intro v133 w44 ho hb hg hat
     have n0_ := Aside0.mk (Kd.R_over' p57z (Kd.R_typed p88z) (by decide) hg)
     have n1_ := Aside0.mk (blk_grown (g := w.heap.size) (o := .cells #[.int .i64 0, .string (⟨#[]⟩ : ByteArray), .slice none 0 0, .slice none 0 0] 28 (0, 0)) p32z hg (Kd.R_away bo.out (fun _ hk => hk.1.1.2.1)))
     have n2_ := Aside0.mk (blk_grown (g := (w.heap.size + 1)) (o := .cells #[(.int .i64 kind), .string (⟨#[]⟩ : ByteArray), u2, v3] 28 (0, 0)) p60z hg (Kd.R_away bo.out (fun _ hk => hk.1.1.2.2)))
     have n3_ := Aside0.mk (IsS67.grown p27z hg (IsS67.own_ne HI0.out bo.out (by decide)))
     have n4_ := Aside0.mk (below_weaken p99z HL.out hb)
     have n5_ := Aside0.mk (KeepBut.trans p25z (KeepBut.of_grown hg g) (Kd.R_base2 bo.out))
     have n6_ := Aside0.mk (ho)
     clear bj
     clear ct
     clear aZ
     clear HI0
     clear HB
     clear HK
     clear bo
     clear jH
     clear jI
     have bj := n0_
     have ct := n1_
     have aZ := n2_
     have HI0 := n3_
     have HB := n4_
     have HK := n5_
     have jJ := n6_
     clear n0_ n1_ n2_ n3_ n4_ n5_ n6_
     clear ho hb hg hat
     obtain ⟨gi, co47, eo47⟩ := Kd.R_slice jJ.out
     (first | subst eo47 | (injection eo47 with f1_ f2_ f3_; have f4_ := f1_.symm; have f5_ := f3_.symm; clear f1_ f2_ f3_; subst f4_; subst f5_))
     refine hK.out _ _ ⟨(blk_cell aZ.out 0).trans rfl, (blk_cell aZ.out 1).trans rfl, (blk_cell aZ.out 2).trans rfl, (blk_cell aZ.out 3).trans rfl⟩ (fun hHeld => ?_)
     clear hK K
     refine nzz (some 47) ?_
     refine pzz 6 (some 48) (tf 7 1) ?_
     refine last_ (i := 7) (N := none) (tf 8 0) rfl rfl (one_of HT_.out p12z) (by decide) (fun K hK => ?_)
     have hs48 : w44.cell? ⟨w.heap.size + 1, 3, none⟩ = some (v3) := (blk_cell aZ.out 3).trans rfl
     have hfs48 := blk_frozen aZ.out 3
     have hns48_0 := NB101_102.out
     have hms48_0 := NB102_101.out
     refine skip_ (w1 := ?_) (by rfl) rfl ?_ ?_
     rotate_left
     ·go_simp
      rfl
     refine hK.out _ _ ?_
     clear hK K
     refine done_ (done_of HT_.out p12z) ?_
     obtain ⟨g1, g2, g3, g4, rfl⟩ := hN z2 m nd z3 m3 d3 HZ2.out.1 HZ2.out.2.1 HZ2.out.2.2.1 HZ2.out.2.2.2 hNF
     have z30 : 0 ≤ z3 := by have := HZ2.out.1; omega
     simp only at hL
     have eL : (L ++ [nd]).length = L.length + 1 := by simp
     have hr3 := Kd.R_far (p := ⟨w.heap.size + 1, 3, none⟩) jJ.out (fun _ hk => hk.2.2) (.slice gi (L.length + 1) co47)
     rw [eL] at hr3
     have hQ : PRel w0 w (w44.setCell ⟨w.heap.size + 1, 3, none⟩ (.slice gi (L.length + 1) co47)) g s kind d3 keys2 (L ++ [nd]) z3 m3 u2 (.slice gi (L.length + 1) co47) :=
      ⟨Kd.R_mono (Kd.R_far (p := ⟨w.heap.size + 1, 3, none⟩) (Kd.R_types bj.out aZ.out (by decide)) (fun _ hk => hk.2) _) (fun _ _ => trivial), hr3, blk_far (p := ⟨w.heap.size + 1, 3, none⟩) ct.out NB101_102.out _, blk_put (cs := #[.int .i64 kind, .string ⟨#[]⟩, u2, v3]) aZ.out 3 _ rfl, HI0.out.far NB0_102.out _, keep_far HK.out GW102.out _, below_set HB.out iW.out, by omega, g2, g3, g4⟩
     have eL2 : ((L ++ [nd]).length : Int) = (L.length : Int) + 1 := by rw [eL]; rfl
     clear hr3 jJ bj ct aZ HI0 HK HB hNF eL hHeld HT_ HW_ hs48 hfs48 hns48_0 hms48_0
     simp only [List.length_append, List.length_singleton]
     generalize w44.setCell ⟨w.heap.size + 1, 3, none⟩ (.slice gi (L.length + 1) co47) = w45 at hQ ⊢
     have hbl := cx g s z3 m3 d3 w0 w45 hQ.st hQ.bl z30 g2 (by omega)
     have hbd := ca z30 g2
     obtain ⟨v, hv⟩ : ∃ v, blanksF s z3 = v := ⟨_, rfl⟩
     rw [hv] at hL hbl hbd
     have v0 : 0 ≤ v := by omega
     have v1 := hbd.2
     obtain ⟨c, hc⟩ : ∃ c, nowF s v = c := ⟨_, rfl⟩
     rw [hc] at hL
     have HQ := hid hQ
     have HV := hid (And.intro g1 hbd.1)
     clear hQ hcall hbd
     by_cases h44 : c = 44
     case pos =>
      rw [if_pos h44] at hL
      have hq44 : (c != 44) = false := bne_eq_false_iff_eq.mpr h44
      have hvl : v < (s.size : Int) := nowF_lt v1 (by decide) (hc.trans h44)
      have hw3 : wrap64 (v + 1) = v + 1 := p76z
      go_wp2_with (first
       | (go_at_call 30; refine hbl.mono ?_; rintro e w46 ⟨rfl, hi6, hb6, hk6⟩; have hnow := now_calls hi6 hb6 v0 v1; rw [hc] at hnow; have HP6 := hid (HQ.out.keep HG.out.1 HG.out.2.1 hk6 hi6 hb6 v0 v1 g3 g4); clear hi6 hb6 hk6)
       | (go_at_call 62; refine hnow.mono ?_; rintro e w47 ⟨rfl, hi7, hb7, hk7⟩; have HP7 := hid (HP6.out.keep HG.out.1 HG.out.2.1 hk7 hi7 hb7 v0 v1 g3 g4); have hz1 := cellS67_1 hi7.1; have hf1 := blk_frozen hi7.1 1; clear hi7 hb7 hk7))
      go_roundg n
      case measure => omega
      case rel => exact ⟨keys2, L ++ [nd], v + 1, m3, u2, .slice gi (L.length + 1) co47, HP7.out.keep HG.out.1 HG.out.2.1 (KeepBut.set_ (KeepBut.refl w47 g none) 1 (.int .i64 (v + 1))) (HP7.out.st.set_1 (v + 1)) (below_set (j := 1) (v := .int .i64 (v + 1)) HP7.out.bl HP7.out.st.2) (by omega) (by omega) g3 g4, hL, by have := HV.out; have := HZZ.out; have := HST.out.2.2.1; omega, by have := HV.out; have := HZZ.out; have := HST.out.2.1; omega, by have := HV.out; have := HZZ.out; have := HST.out.2.2.2.2; rw [eL2]; omega⟩
     rw [if_neg h44] at hL
     have hq44 : (c != 44) = true := bne_iff_ne.mpr h44
     subst hL
     obtain ⟨Ak, ck, ek⟩ := Kd.R_slice HQ.out.r2
     subst ek
     have hr := HR2.out
     simp only at hr
     clear HR2
     rcases hwd : wordF s [last] v with p | v'
     ·rw [hwd] at hr
      simp only at hr
      have HRX := hid hr
      clear hr
      have e93 : Utf8.encode 93 = (⟨#[93]⟩ : ByteArray) := p103z
      have e125 : Utf8.encode 125 = (⟨#[125]⟩ : ByteArray) := p103z
      rcases hl2 with rfl | rfl
      all_goals
       go_wp2_with (first
        | (go_at_call 30; refine hbl.mono ?_; rintro e w46 ⟨rfl, hi6, hb6, hk6⟩; have hnow := now_calls hi6 hb6 v0 v1; rw [hc] at hnow; have HP6 := hid (HQ.out.keep HG.out.1 HG.out.2.1 hk6 hi6 hb6 v0 v1 g3 g4); clear hi6 hb6 hk6)
        | (go_at_call 62; refine hnow.mono ?_; rintro e w47 ⟨rfl, hi7, hb7, hk7⟩; have HP7 := hid (HP6.out.keep HG.out.1 HG.out.2.1 hk7 hi7 hb7 v0 v1 g3 g4); clear hi7 hb7 hk7)
        | (go_at_call 84; (first | refine (word_err (t := ⟨#[93]⟩) HP7.out.st HP7.out.bl v0 v1 (by omega) (by decide) hwd).mono ?_ | refine (word_err (t := ⟨#[125]⟩) HP7.out.st HP7.out.bl v0 v1 (by omega) (by decide) hwd).mono ?_); rintro e w48 ⟨rfl, hb8⟩))
       exact ⟨rfl, by rw [← HRX.out]; exact ⟨rfl, hb8⟩⟩
     ·rw [hwd] at hr
      simp only at hr
      have HRX := hid hr
      clear hr
      have hvb := wordF_bd v0 v1 hwd
      have v'0 : 0 ≤ v' := by omega
      have v'1 := hvb.2
      clear hvb
      have e93 : Utf8.encode 93 = (⟨#[93]⟩ : ByteArray) := p103z
      have e125 : Utf8.encode 125 = (⟨#[125]⟩ : ByteArray) := p103z
      rcases hl2 with rfl | rfl
      all_goals
       go_wp2_with (first
        | (go_at_call 30; refine hbl.mono ?_; rintro e w46 ⟨rfl, hi6, hb6, hk6⟩; have hnow := now_calls hi6 hb6 v0 v1; rw [hc] at hnow; have HP6 := hid (HQ.out.keep HG.out.1 HG.out.2.1 hk6 hi6 hb6 v0 v1 g3 g4); clear hi6 hb6 hk6)
        | (go_at_call 62; refine hnow.mono ?_; rintro e w47 ⟨rfl, hi7, hb7, hk7⟩; have HP7 := hid (HP6.out.keep HG.out.1 HG.out.2.1 hk7 hi7 hb7 v0 v1 g3 g4); clear hi7 hb7 hk7)
        | (go_at_call 84; (first | refine (word_ok (t := ⟨#[93]⟩) HP7.out.st HP7.out.bl v0 v1 (by omega) (by decide) hwd).mono ?_ | refine (word_ok (t := ⟨#[125]⟩) HP7.out.st HP7.out.bl v0 v1 (by omega) (by decide) hwd).mono ?_); rintro e w48 ⟨rfl, hi8, hb8, hk8⟩; have HP8 := hid (HP7.out.keep HG.out.1 HG.out.2.1 hk8 hi8 hb8 v'0 v'1 g3 g4); clear hi8 hb8 hk8; have hc0 := cell_of (i := 0) HP8.out.b1 rfl; have hc1 := cell_of (i := 1) HP8.out.b1 rfl; have hc2 := cell_of (i := 2) HP8.out.b1 rfl; have hc3 := cell_of (i := 3) HP8.out.b1 rfl; have hd0 := cell_of (i := 0) HP8.out.b2 rfl; have hd1 := cell_of (i := 1) HP8.out.b2 rfl; have hd2 := cell_of (i := 2) HP8.out.b2 rfl; have hd3 := cell_of (i := 3) HP8.out.b2 rfl; have he0 := blk_frozen HP8.out.b1 0; have he1 := blk_frozen HP8.out.b1 1; have he2 := blk_frozen HP8.out.b1 2; have he3 := blk_frozen HP8.out.b1 3))
       have hst := bX HP8.out.st HP8.out.bl HP8.out.kp HP8.out.b1 HG.out.1 (Nat.le_refl _) HG.out.2.2 (.int .i64 kind) (.string ⟨#[]⟩) (.slice Ak keys2.length ck) (.slice gi (L.length + 1) co47)
       rw [← HRX.out]
       refine bodyPost_ret (results_cell_row rfl _ _ w.heap.size 28 #[.int .i64 kind, .string ⟨#[]⟩, .slice Ak keys2.length ck, .slice gi (L.length + 1) co47] (0, 0) _ rfl hst.1 Tryz.underlying28 rfl p12z) rfl ?_
       have q2 := Kd.R_types HP8.out.r2 HP8.out.b1 (by decide)
       have q3 := HP8.out.r3
       exact ⟨_, _, rfl, Kd.R_mono (Kd.R_far (p := ⟨w.heap.size, 3, none⟩) (Kd.R_far (p := ⟨w.heap.size, 2, none⟩) (Kd.R_far (p := ⟨w.heap.size, 1, none⟩) (Kd.R_far (p := ⟨w.heap.size, 0, none⟩) q2 (fun _ hk => hk.2) _) (fun _ hk => hk.2) _) (fun _ hk => hk.2) _) (fun _ hk => hk.2) _) (fun _ _ => trivial), Kd.R_mono (Kd.R_far (p := ⟨w.heap.size, 3, none⟩) (Kd.R_far (p := ⟨w.heap.size, 2, none⟩) (Kd.R_far (p := ⟨w.heap.size, 1, none⟩) (Kd.R_far (p := ⟨w.heap.size, 0, none⟩) q3 (fun _ hk => hk.2.1) _) (fun _ hk => hk.2.1) _) (fun _ hk => hk.2.1) _) (fun _ hk => hk.2.1) _) (fun _ hk => hk.1), hst.2.1, hst.2.2.1, hst.2.2.2⟩
end Go.Proofs.YtodnggilomanbaaGreatDoor.Hand
