/-
  jtree's reader: node: the walk.
-/
import Derived.Test.YtodnggilomanbaaGreatDoorAp
import Derived.Test.YtodnggilomanbaaGreatDoorHandStep
import Derived.Test.YtodnggilomanbaaGreatDoorHandNz
import Derived.Test.YtodnggilomanbaaGreatDoorHandSame
import Derived.Test.YtodnggilomanbaaGreatDoorHandAa
import Derived.Deep.CutBlock
set_option maxRecDepth 100000
set_option maxHeartbeats 8000000
namespace Go.Proofs.YtodnggilomanbaaGreatDoor.Hand
open Go.RowKit Go.Lib Go.Maps Go.Proofs.YtodnggilomanbaaGreatDoorW.PrintWords Go.Proofs.YtodnggilomanbaaGreatDoorW.PrintLast Go.Proofs.YtodnggilomanbaaGreatDoorW.PrintMore Go.Proofs.YtodnggilomanbaaGreatDoor.PAll
set_option linter.unusedVariables false
set_option linter.unusedSimpArgs false

def waysD : DataW Unit := (((((((DataW.map []).put (.int .u8 110) (.lit (.int .i64 (55 : Nat)))).put (.int .u8 102) (.lit (.int .i64 (56 : Nat)))).put (.int .u8 116) (.lit (.int .i64 (57 : Nat)))).put (.int .u8 34) (.lit (.int .i64 (58 : Nat)))).put (.int .u8 91) (.lit (.int .i64 (59 : Nat)))).put (.int .u8 123) (.lit (.int .i64 (60 : Nat)))).put (.int .u8 45) (.lit (.int .i64 (61 : Nat)))
def digD : Nat → DataW Unit
  | 0 => waysD
  | i + 1 => (digD i).put (.int .u8 (48 + (i : Int))) (.lit (.int .i64 (61 : Nat)))
/-- The method for a byte, as its function's number; 0: none. -/
def wayN (c : Int) : Int := if c = 110 then (55 : Nat) else if c = 102 then (56 : Nat) else if c = 116 then (57 : Nat) else if c = 34 then (58 : Nat) else if c = 91 then (59 : Nat) else if c = 123 then (60 : Nat) else if c = 45 then (61 : Nat) else if 48 ≤ c ∧ c ≤ 57 then (61 : Nat) else 0
def i64? : DataW Unit → Option Int
  | .lit (.int .i64 x) => some x
  | _ => none
theorem way_all : ∀ c : Fin 256, i64? ((digD 10).atKey (.int .u8 (c.val : Int)) (.lit (.int .i64 0))) = some (wayN (c.val : Int)) := p103z
theorem way_at {c : Int} (h0 : 0 ≤ c) (h1 : c ≤ 255) : (digD 10).atKey (.int .u8 c) (.lit (.int .i64 0)) = .lit (.int .i64 (wayN c)) := by
 have := way_all ⟨c.toNat, by omega⟩
 rw [show (((⟨c.toNat, by omega⟩ : Fin 256).val : Nat) : Int) = c from Int.toNat_of_nonneg h0] at this
 generalize (digD 10).atKey (.int .u8 c) (.lit (.int .i64 0)) = d at this ⊢
 unfold i64? at this
 split at this
 ·rw [Option.some.inj this]
 ·cases this
theorem wayN_zero {c : Int} (h : wayN c = 0) : isWay c = false := by
  unfold wayN at h
  unfold isWay
  simp only [Bool.or_eq_false_iff, Bool.and_eq_false_iff, decide_eq_false_iff_not]
  (repeat' split at h) <;> first | (simp at h; done) | omega
theorem wayN_way {c : Int} {n : Nat} (h : wayN c = (n : Int)) (hn : n ≠ 0) : isWay c = true := by
  unfold wayN at h
  unfold isWay
  simp only [Bool.or_eq_true, Bool.and_eq_true, decide_eq_true_eq]
  (repeat' split at h) <;> omega
theorem eq_nil0 (w : World) : (binOp .eql 68 .nilFunc .nilFunc).run Tryz.prog w = .ok (.bool true) w := by
  have h : ∀ d : Nat, (Op.equalIn (d + 1) 68 .nilFunc .nilFunc).run Tryz.prog w = .ok true w := fun d => by simp [Op.equalIn, run_underlying Tryz.underlying68]
  simp only [binOp]
  simp [Op.equal, Op.maxDepth, h 9999]
theorem eq_nil1 (n : Nat) (fs : Array Value) (w : World) : (binOp .eql 68 (.func (.func n) fs #[]) .nilFunc).run Tryz.prog w = .ok (.bool false) w := by
  have h : ∀ d : Nat, (Op.equalIn (d + 1) 68 (.func (.func n) fs #[]) .nilFunc).run Tryz.prog w = .ok false w := fun d => by simp [Op.equalIn, run_underlying Tryz.underlying68]
  simp only [binOp]
  simp [Op.equal, Op.maxDepth, h 9999]
theorem own_keep {H : Type} {P : Program} {k : TypeId} {R : Value → Option (DataW H × List MemPlace)} {w w1 : World} {b n g : Nat} {D : DataW H} (h : w.ownsMap P k R b n D) (hk : KeepBut w w1 g none) (hne : b ≠ g) : w1.ownsMap P k R b n D := by
  obtain ⟨es, clock, hb, F, hs, hD⟩ := h
  exact ⟨es, clock, hk.blk hb hne (by simp), F, hs, hD⟩
theorem nowF_bd {s : ByteArray} {y : Int} : 0 ≤ nowF s y ∧ nowF s y ≤ 255 := by
 unfold nowF
 split
 ·omega
 ·exact bt_range _ _
theorem wayF_goes {NF : NodeFn} {s : ByteArray} {D c y many z m d : Int} {nd : S28} (hN : Goes NF s (D + 1)) (hc : nowF s y = c) (y0 : 0 ≤ y) (y1 : y ≤ (s.size : Int)) (hm0 : 0 ≤ many) (hm1 : many ≤ 4000) (hv : wayF NF s c y many (D + 1) = .ok (nd, z, m, d)) : y < z ∧ z ≤ (s.size : Int) ∧ 0 ≤ m ∧ m ≤ 4000 ∧ d = D + 1 := by
 unfold wayF at hv
 split at hv
 ·have := d8 (by simp) y0 y1 hv; omega
 ·split at hv
  ·have := d8 (by simp) y0 y1 hv; omega
  ·split at hv
   ·have := d8 (by simp) y0 y1 hv; omega
   ·split at hv
    ·have := strN_goes y0 y1 hv; omega
    ·split at hv
     ·rename_i h9
      have hy := nowF_lt y1 (by decide) (hc.trans h9)
      exact partsF_bd hN (by decide) y0 hy (by omega) (by omega) hv
     ·split at hv
      ·rename_i h9
       have hy := nowF_lt y1 (by decide) (hc.trans h9)
       exact partsF_bd hN (by decide) y0 hy (by omega) (by omega) hv
      ·have := ep y0 y1 hv; omega
theorem node_step (NF : NodeFn) (g : Nat) (s : ByteArray) (x many D : Int) (w0 w : World) (r : Except (Int × Int) (S28 × Int × Int × Int))
 (hI : IsS67 w0 w g s x many D) (hB : Below w0.heap.size w0 w) (h0 : 0 ≤ x) (h1 : x ≤ (s.size : Int)) (hm0 : 0 ≤ many) (hm1 : many ≤ 4000) (hs : s.size ≤ 1073741824) (HTAB : Tabs w0) (hD0 : 0 ≤ D) (hD1 : D ≤ 60) (hN : Goes NF s (D + 1))
 (hNode : D + 1 ≤ 60 → ∀ (W : World) (x many : Int), IsS67 w0 W g s x many (D + 1) → Below w0.heap.size w0 W → 0 ≤ x → x ≤ (s.size : Int) → 0 ≤ many → many ≤ 4000 → Calls Tryz.prog 29 #[.pointer (some ⟨g, 0, none⟩)] W fun e w' => NodeOut w0 W w' g s (NF x many (D + 1)) e)
 (hr : r = if isWay (nowF s (blanksF s x)) = true then
  if 4000 < many + 1 ∨ 60 < D + 1 then .error (blanksF s x, 5)
  else match wayF NF s (nowF s (blanksF s x)) (blanksF s x) (many + 1) (D + 1) with
   | .error e => .error e
   | .ok (nd, z, m, d) => .ok (nd, z, m, d - 1)
 else .error (blanksF s x, 140)) :
 Calls Tryz.prog 29 #[.pointer (some ⟨g, 0, none⟩)] w fun e w' => NodeOut w0 w w' g s r e := by
 have hmm := @run_makeMap Tryz.prog
 have hI1 : IsS67 w0 (w.alloc (.cells zcells 28)) g s x many D := hI.alloc _
 have hB1 : Below w0.heap.size w0 (w.alloc (.cells zcells 28)) := below_alloc hB _
 have hK1 : KeepBut w (w.alloc (.cells zcells 28)) g none := keep_alloc (KeepBut.refl w g none) _
 have hblk : (w.alloc (.cells zcells 28)).heap[w.heap.size]? = some (.cells zcells 28 (0, 0)) := heap_alloc_new w _
 have hne : w.heap.size ≠ g := (Nat.ne_of_lt hI.lt).symm
 have hge : w0.heap.size ≤ w.heap.size := hB.size
 have hbl := cx g s x many D w0 _ hI1 hB1 h0 h1 (by omega)
 have HID := hid (And.intro hK1 (And.intro hblk (And.intro hne hge)))
 clear hK1 hblk hne hge hI1 hB1
 go_enter Tryz.func29, Tryz.ntmps29
 go_upto_block 0 with (first
  | (go_at_call 30; refine hbl.mono ?_; rintro e w4 ⟨rfl, hi4, hb4, hk4⟩; have HH := hid (And.intro hi4 (And.intro hb4 hk4)); have hown : (w4.alloc (.map #[] 0)).ownsMap Tryz.prog 5 (fnR g) w4.heap.size 0 (.map []) := World.ownsMap_made _ _ _ _; have hB : Below w4.heap.size w4 (w4.alloc (.map #[] 0)) := (Below.refl _ _).alloc (Nat.le_refl _) _; clear hi4 hb4 hk4)
  | ((with_reducible refine cf rfl ?_); refine bp _ rfl _ _ _ 100 rfl 5 68 law5 Tryz.underlying100 (fnR g) _ _ _ rfl hown p109z _ _ _ rfl rfl (keyOf_int_mk Tryz.underlying5 (by decide)) _ [] (fnR_func g _ (by decide)) ?_; intro w1 hown1 hgrow1; have n1 := hB.grown hgrow1 hB.size (fun j hj => p95z); clear hgrow1; clear hown hB; have hown := hown1; have hB := n1; clear hown1 n1))
 have hmap : w1.ownsMap Tryz.prog 5 (fnR g) w4.heap.size 7 (digD 0) := hown
 clear hown
 go_cut [] from 25 to 32 (fun wc => wc.ownsMap Tryz.prog 5 (fnR g) w4.heap.size 17 (digD 10) ∧ Below w4.heap.size w4 wc)
 case first =>
  go_wp2
  go_loopw [4] (fun v wr => ∃ i : Nat, v = .int .u8 (48 + (i : Int)) ∧ i ≤ 10 ∧ wr.ownsMap Tryz.prog 5 (fnR g) w4.heap.size (7 + i) (digD i) ∧ Below w4.heap.size w4 wr) (fun v _ => 100 - (intOf v).toNat)
  case atStart => exact ⟨0, rfl, by omega, hmap, hB⟩
  case round =>
   obtain ⟨i, rfl, hi, hown, hBr⟩ := hrel
   by_cases hlt : i < 10
   case neg =>
    have hi10 : i = 10 := by omega
    subst hi10
    go_wp2
    go_meet
    case rel => exact ⟨hown, hBr⟩
   have hwf : (Lit.int .u8 (48 + (i : Int))).wf = true := by show (decide (0 ≤ 48 + (i : Int)) && decide (48 + (i : Int) ≤ 255)) = true; simp; omega
   have hq : (48 + (i : Int) ≤ 57) := by omega
   go_wp2_with (at_mapUpdate; refine wpList_mapUpdate_own _ rfl _ _ _ 100 rfl 5 68 law5 Tryz.underlying100 (fnR g) _ _ (digD i) rfl hown p109z _ _ (.int .u8 (48 + (i : Int))) rfl rfl (keyOf_int_mk Tryz.underlying5 hwf) _ [] (fnR_func g _ (by decide)) ?_; intro w2 hown2 hgrow2)
   refine ⟨⟨i + 1, ?_, hlt, hown2, ?_⟩, ?_⟩
   ·have e : IntKind.u8.wrap (48 + (i : Int) + 1) = 48 + ((i + 1 : Nat) : Int) := by simp [IntKind.wrap, IntKind.bits, IntKind.signed]; omega
    first | rw [e] | (simp; omega)
   ·exact hBr.grown hgrow2 hBr.size (fun j hj => p95z)
   ·first | (simp [intOf, IntKind.wrap, IntKind.bits, IntKind.signed]; omega)
 case rest =>
  obtain ⟨hm17, hBc⟩ := hcut
  have hi4 := HH.out.1.below hBc
  have hb4 : Below w0.heap.size w0 wc := below_step HH.out.2.1 hBc
  have hk4 : KeepBut w4 wc g none := KeepBut.of_below hBc g none
  have hblk4 := hk4.blk (HH.out.2.2.blk HID.out.2.1 HID.out.2.2.1 (by simp)) HID.out.2.2.1 (by simp)
  have HK := hid (And.intro ((HID.out.1.trans HH.out.2.2 (.inl rfl)).trans hk4 (.inl rfl)) (And.intro hblk4 HID.out.2.2))
  have hmne : w4.heap.size ≠ g := (Nat.ne_of_lt HH.out.1.lt).symm
  obtain ⟨y, hy⟩ : ∃ y, blanksF s x = y := ⟨_, rfl⟩
  rw [hy] at hi4 hr
  have hyb := ca (s := s) (x := x) h0 h1
  rw [hy] at hyb
  have y0 : 0 ≤ y := by omega
  have y1 := hyb.2
  have hnow := now_calls hi4 hb4 y0 y1
  have HM := hid hm17
  clear hm17 hmap hB HH HID hblk4 hi4 hb4 hk4 hBc
  obtain ⟨c, hc⟩ : ∃ c, nowF s y = c := ⟨_, rfl⟩
  have hcb := nowF_bd (s := s) (y := y)
  rw [hc] at hnow hr hcb
  have hwf : (Lit.int .u8 c).wf = true := by show (decide (0 ≤ c) && decide (c ≤ 255)) = true; simp; omega
  have HR := hid hr
  clear hr
  go_upto_region 8 with (first
   | (go_at_call 62; refine hnow.mono ?_; rintro e w5 ⟨rfl, hi5, hb5, hk5⟩; have HI5 := hid (And.intro hi5 (And.intro hb5 (And.intro (HK.out.1.trans hk5 (.inl rfl)) (And.intro (hk5.blk HK.out.2.1 HK.out.2.2.1 (by simp)) HK.out.2.2)))); have hm5 := own_keep HM.out hk5 hmne; clear hi5 hb5 hk5 HM HK)
   | ((with_reducible refine eD rfl ?_); refine dj _ rfl _ _ 100 rfl 5 68 law5 Tryz.underlying100 (fnR g) (zeroWay _) (.lit (.int .i64 0)) [] rfl w4.heap.size 17 (digD 10) rfl hm5 _ (.int .u8 c) rfl (keyOf_int_mk Tryz.underlying5 hwf) ?_; intro v ps hv; clear hm5))
  rw [way_at hcb.1 hcb.2] at hv
  have hreq := HR.out
  rcases fnR_inv hv with ⟨rfl, hw0⟩ | ⟨n, rfl, hwn, hn0⟩
  ·rw [wayN_zero hw0, if_neg (by decide)] at hreq
   have HE := hid hreq
   have hz1 := cellS67_1 HI5.out.1.1
   have hq0 := eq_nil0
   clear hv HR hreq hw0
   go_wp2_with (go_at_call 31; refine (bE _ _ _).mono ?_; rintro e w6 ⟨rfl, rfl⟩)
   exact ⟨rfl, by rw [HE.out]; exact ⟨rfl, HI5.out.2.1⟩⟩
  ·rw [wayN_way hwn hn0, if_pos rfl] at hreq
   have hz2 := cellS67_2 HI5.out.1.1
   have hz3 := cellS67_3 (HI5.out.1.set_2 (many + 1)).1
   have hf2 := blk_frozen HI5.out.1.1 2
   have hf3 := blk_frozen (HI5.out.1.set_2 (many + 1)).1 3
   have hw2 : wrap64 (many + 1) = many + 1 := p76z
   have hw3 : wrap64 (D + 1) = D + 1 := p76z
   have HE := hid hreq
   have HV := hid (And.intro hwn hn0)
   have hq1 := eq_nil1 n
   clear hv HR hreq hwn hn0
   go_upto_region 12 with (fail)
   have hIa := (HI5.out.1.set_2 (many + 1)).set_3 (D + 1)
   have hBa := below_set (j := 3) (v := .int .i64 (D + 1)) (below_set (j := 2) (v := .int .i64 (many + 1)) HI5.out.2.1 HI5.out.1.2) HI5.out.1.2
   have hKa := KeepBut.set_ (KeepBut.set_ HI5.out.2.2.1 2 (.int .i64 (many + 1))) 3 (.int .i64 (D + 1))
   have hMa := blk_far (p := ⟨g, 3, none⟩) (blk_far (p := ⟨g, 2, none⟩) HI5.out.2.2.2.1 HI5.out.2.2.2.2.1 (.int .i64 (many + 1))) HI5.out.2.2.2.2.1 (.int .i64 (D + 1))
   have HG := hid HI5.out.2.2.2.2
   have HA := hid (And.intro hIa (And.intro hBa (And.intro hKa hMa)))
   clear hIa hBa hKa hMa hz2 hz3 hf2 hf3 HI5 hw2 hw3 hq1
   revert HA
   generalize World.setCell (World.setCell _ _ _) _ _ = W5
   intro HA
   have hz1 := cellS67_1 HA.out.1.1
   have hz2 := cellS67_2 HA.out.1.1
   have hz3 := cellS67_3 HA.out.1.1
   by_cases hlim : 4000 < many + 1 ∨ 60 < D + 1
   case pos =>
    have hreq := HE.out
    rw [if_pos hlim] at hreq
    have HE2 := hid hreq
    clear HE hreq
    by_cases hl1 : 4000 < many + 1
    case pos =>
     have hq2 : decide (4000 < many + 1) = true := decide_eq_true hl1
     clear hl1 hlim
     go_wp2
     exact ⟨rfl, by rw [HE2.out]; exact ⟨rfl, HA.out.2.1⟩⟩
    have hq2 : decide (4000 < many + 1) = false := decide_eq_false hl1
    have hq3 : decide (60 < D + 1) = true := decide_eq_true (by omega)
    clear hl1 hlim
    go_wp2
    exact ⟨rfl, by rw [HE2.out]; exact ⟨rfl, HA.out.2.1⟩⟩
   have hreq := HE.out
   rw [if_neg hlim] at hreq
   have hq2 : decide (4000 < many + 1) = false := decide_eq_false (by omega)
   have hq3 : decide (60 < D + 1) = false := decide_eq_false (by omega)
   have hcall : ∃ fn, Tryz.prog.funcs[n]? = some fn ∧ (fn.name == "runtime.NumGoroutine") = false ∧ fn.body.isSome = true ∧ Calls Tryz.prog n #[.pointer (some ⟨g, 0, none⟩)] W5 fun e w' => NodeOut w0 W5 w' g s (wayF NF s c y (many + 1) (D + 1)) e := by
    obtain ⟨hwn, hn0⟩ := HV.out
    have hI := HA.out.1
    have hB := HA.out.2.1
    have hs2 : s.size ≤ 1099511627776 := by omega
    have hN2 := hNode (by omega)
    have a0 : 0 ≤ many + 1 := by omega
    have a1 : many + 1 ≤ 4000 := by omega
    unfold wayN at hwn
    unfold wayF
    by_cases e : c = 110
    case pos =>
     rw [if_pos e] at hwn
     obtain rfl := Int.ofNat.inj hwn
     rw [if_pos e]
     exact ⟨_, Tryz.func55, p12z, rfl, ie g s y (many + 1) (D + 1) w0 W5 hI hB y0 y1 hs2⟩
    rw [if_neg e] at hwn
    rw [if_neg e]
    clear e
    by_cases e : c = 102
    case pos =>
     rw [if_pos e] at hwn
     obtain rfl := Int.ofNat.inj hwn
     rw [if_pos e]
     exact ⟨_, Tryz.func56, p12z, rfl, no_calls g s y (many + 1) (D + 1) w0 W5 hI hB y0 y1 hs2⟩
    rw [if_neg e] at hwn
    rw [if_neg e]
    clear e
    by_cases e : c = 116
    case pos =>
     rw [if_pos e] at hwn
     obtain rfl := Int.ofNat.inj hwn
     rw [if_pos e]
     exact ⟨_, Tryz.func57, p12z, rfl, yes_calls g s y (many + 1) (D + 1) w0 W5 hI hB y0 y1 hs2⟩
    rw [if_neg e] at hwn
    rw [if_neg e]
    clear e
    by_cases e : c = 34
    case pos =>
     rw [if_pos e] at hwn
     obtain rfl := Int.ofNat.inj hwn
     rw [if_pos e]
     exact ⟨_, Tryz.func58, p12z, rfl, gM g s y (many + 1) (D + 1) w0 W5 hI hB y0 y1 hs HTAB⟩
    rw [if_neg e] at hwn
    rw [if_neg e]
    clear e
    by_cases e : c = 91
    case pos =>
     rw [if_pos e] at hwn
     obtain rfl := Int.ofNat.inj hwn
     rw [if_pos e]
     have yl := nowF_lt y1 (by decide) (hc.trans e)
     exact ⟨_, Tryz.func59, p12z, rfl, iv NF g s y (many + 1) (D + 1) w0 W5 hN hN2 hI hB y0 yl a0 a1 hs HTAB⟩
    rw [if_neg e] at hwn
    rw [if_neg e]
    clear e
    by_cases e : c = 123
    case neg =>
     rw [if_neg e] at hwn
     rw [if_neg e]
     clear e
     have hnn : n = 61 := by
      (repeat' split at hwn) <;> omega
     subst hnn
     exact ⟨_, Tryz.func61, p12z, rfl, gh g s y (many + 1) (D + 1) w0 W5 hI hB y0 y1 hs2⟩
    rw [if_pos e] at hwn
    obtain rfl := Int.ofNat.inj hwn
    rw [if_pos e]
    have yl := nowF_lt y1 (by decide) (hc.trans e)
    exact ⟨_, Tryz.func60, p12z, rfl, obj_calls NF g s y (many + 1) (D + 1) w0 W5 hN hN2 hI hB y0 yl a0 a1 hs HTAB⟩
   obtain ⟨fn, hfn, hnm, hbd, hcl⟩ := hcall
   have HCL := hid hcl
   clear hcl HE
   rcases hres : wayF NF s c y (many + 1) (D + 1) with ⟨p, cc⟩ | ⟨nd, z, m, d⟩
   ·rw [hres] at HCL hreq
    simp only at hreq
    have HE2 := hid hreq
    clear hreq hres hlim
    go_wp2_with ((with_reducible refine eZ (n := 77) rfl ?_); refine e7 rfl hfn hnm hbd rfl rfl ?_; refine HCL.out.mono ?_; rintro e w' ⟨rfl, hb⟩; refine Or.inr ⟨_, rfl, ?_⟩)
    exact ⟨rfl, by rw [HE2.out]; exact ⟨rfl, hb⟩⟩
   ·have hgo := wayF_goes (many := many + 1) hN hc y0 y1 (by omega) (by omega) hres
    clear hlim
    rw [hres] at HCL hreq
    simp only at hreq
    have HE2 := hid hreq
    clear hreq hres
    go_upto_region 15 with (first
     | ((with_reducible refine eZ (n := 77) rfl ?_); refine e7 rfl hfn hnm hbd rfl rfl ?_; refine HCL.out.mono ?_; rintro e w' ⟨v2, v3, rfl, r2, r3, hi, hb, hk⟩; refine Or.inl ⟨_, rfl, ?_⟩; obtain ⟨A2, c2, e2⟩ := Kd.R_slice r2; obtain ⟨A3, c3, e3⟩ := Kd.R_slice r3; subst e2; subst e3; have HR2 := hid (And.intro r2 r3); clear r2 r3; have HH := hid (And.intro hi (And.intro hb hk)); clear hi hb hk)
     | ((with_reducible refine gate_dst (N := 6) rfl ?_); refine box_event ?hg (N := 6) ?hd (cs := zcells) (t := 28) ?hr ?_; (case hd => rfl); (case hg => rfl); (case hr => exact p9z); intro g6 hg6 w6 hbox hbw; have BK6 := hid hbox; have HB6 := hid hbw; have G6 := hid hg6; have hcz0 := cell_of (i := 0) hbox rfl; have hcz1 := cell_of (i := 1) hbox rfl; have hcz2 := cell_of (i := 2) hbox rfl; have hcz3 := cell_of (i := 3) hbox rfl; have hfz0 := blk_frozen hbox 0; have hfz1 := blk_frozen hbox 1; have hfz2 := blk_frozen hbox 2; have hfz3 := blk_frozen hbox 3; clear hbox hbw hg6))
    have hlt5 : w.heap.size < W5.heap.size := blk_lt HA.out.2.2.2
    have hblk' := HH.out.2.2.blk HA.out.2.2.2 HG.out.1 (by simp)
    have hltw := blk_lt hblk'
    have hgw := HH.out.1.lt
    have ne6 : g6 ≠ g := by rw [G6.out]; omega
    have ne6w : w.heap.size ≠ g6 := by rw [G6.out]; omega
    have ge6 : w0.heap.size ≤ g6 := by rw [G6.out]; have := HG.out.2; omega
    have gw6 : w.heap.size ≤ g6 := by rw [G6.out]; omega
    have hI15 := ((((HH.out.1.below HB6.out).far (p := ⟨g6, 0, none⟩) ne6.symm (.int .i64 nd.f0)).far (p := ⟨g6, 1, none⟩) ne6.symm (.string nd.f1)).far (p := ⟨g6, 2, none⟩) ne6.symm (.slice A2 nd.f2.length c2)).far (p := ⟨g6, 3, none⟩) ne6.symm (.slice A3 nd.f3.length c3)
    have hB15 := below4 (below_step HH.out.2.1 HB6.out) ge6 (.int .i64 nd.f0) (.string nd.f1) (.slice A2 nd.f2.length c2) (.slice A3 nd.f3.length c3)
    have hK15 := keep_far (p := ⟨g6, 3, none⟩) (keep_far (p := ⟨g6, 2, none⟩) (keep_far (p := ⟨g6, 1, none⟩) (keep_far (p := ⟨g6, 0, none⟩) ((HA.out.2.2.1.trans HH.out.2.2 (.inl rfl)).trans (KeepBut.of_below HB6.out g none) (.inl rfl)) gw6 (.int .i64 nd.f0)) gw6 (.string nd.f1)) gw6 (.slice A2 nd.f2.length c2)) gw6 (.slice A3 nd.f3.length c3)
    have hM15 := far4 (blk_below hblk' HB6.out) ne6w (.int .i64 nd.f0) (.string nd.f1) (.slice A2 nd.f2.length c2) (.slice A3 nd.f3.length c3)
    have hX15 := stored4 BK6.out (.int .i64 nd.f0) (.string nd.f1) (.slice A2 nd.f2.length c2) (.slice A3 nd.f3.length c3)
    have q2 := Kd.R_mono (Kd.R_bound (HH.out.1.apart HR2.out.1 (by decide))) (ok' := fun k => True ∧ k ≠ g6 ∧ k ≠ g ∧ k ≠ w.heap.size) (fun k hk => ⟨trivial, by have := hk.2.2.1; rw [G6.out]; omega, hk.1.2, p114z⟩)
    have q3 := Kd.R_mono (Kd.R_bound (HH.out.1.apart HR2.out.2 (by decide))) (ok' := fun k => some k ≠ (Value.slice A2 nd.f2.length c2).ownBlock ∧ k ≠ g6 ∧ k ≠ g ∧ k ≠ w.heap.size) (fun k hk => ⟨hk.1.1, by have := hk.2.2.1; rw [G6.out]; omega, hk.1.2, p114z⟩)
    have q2 := Kd.R_far (p := ⟨g6, 3, none⟩) (Kd.R_far (p := ⟨g6, 2, none⟩) (Kd.R_far (p := ⟨g6, 1, none⟩) (Kd.R_far (p := ⟨g6, 0, none⟩) (Kd.R_below q2 HB6.out) (fun _ hk => hk.2.1) (.int .i64 nd.f0)) (fun _ hk => hk.2.1) (.string nd.f1)) (fun _ hk => hk.2.1) (.slice A2 nd.f2.length c2)) (fun _ hk => hk.2.1) (.slice A3 nd.f3.length c3)
    have q3 := Kd.R_far (p := ⟨g6, 3, none⟩) (Kd.R_far (p := ⟨g6, 2, none⟩) (Kd.R_far (p := ⟨g6, 1, none⟩) (Kd.R_far (p := ⟨g6, 0, none⟩) (Kd.R_below q3 HB6.out) (fun _ hk => hk.2.1) (.int .i64 nd.f0)) (fun _ hk => hk.2.1) (.string nd.f1)) (fun _ hk => hk.2.1) (.slice A2 nd.f2.length c2)) (fun _ hk => hk.2.1) (.slice A3 nd.f3.length c3)
    have HP := hid (And.intro hI15 (And.intro hB15 (And.intro hK15 (And.intro hM15 (And.intro hX15 (And.intro q2 q3))))))
    clear hI15 hB15 hK15 hM15 hX15 q2 q3 hblk' hltw hgw hcz0 hcz1 hcz2 hcz3 hfz0 hfz1 hfz2 hfz3 HR2 HH BK6 HB6 hz1 hz2 hz3
    revert HP
    generalize World.setCell (World.setCell _ _ _) _ _ = W15
    intro HP
    obtain ⟨_, _, _, _, hd⟩ := hgo
    have hw4 : wrap64 (d - 1) = d - 1 := by rw [hd]; unfold wrap64; omega
    have hz3 := cellS67_3 HP.out.1.1
    have hf3 := blk_frozen HP.out.1.1 3
    clear hd
    go_upto_region 16 with (fail)
    have hI16 := HP.out.1.set_3 (d - 1)
    have hB16 := below_set (j := 3) (v := .int .i64 (d - 1)) HP.out.2.1 HP.out.1.2
    have hK16 := KeepBut.set_ HP.out.2.2.1 3 (.int .i64 (d - 1))
    have hM16 := blk_far (p := ⟨g, 3, none⟩) HP.out.2.2.2.1 HG.out.1 (.int .i64 (d - 1))
    have hX16 := blk_far (p := ⟨g, 3, none⟩) HP.out.2.2.2.2.1 ne6 (.int .i64 (d - 1))
    have q2 := Kd.R_far (p := ⟨g, 3, none⟩) HP.out.2.2.2.2.2.1 (fun _ hk => hk.2.2.1) (.int .i64 (d - 1))
    have q3 := Kd.R_far (p := ⟨g, 3, none⟩) HP.out.2.2.2.2.2.2 (fun _ hk => hk.2.2.1) (.int .i64 (d - 1))
    have HP6 := hid (And.intro hI16 (And.intro hB16 (And.intro hK16 (And.intro hM16 (And.intro hX16 (And.intro q2 q3))))))
    clear hI16 hB16 hK16 hM16 hX16 q2 q3 HP hz3 hf3 hw4
    revert HP6
    generalize World.setCell _ _ _ = W16
    intro HP6
    obtain ⟨hc0, hc1, hc2, hc3, -⟩ := cells4 HP6.out.2.2.2.2.1
    obtain ⟨hd0, hd1, hd2, hd3, hf0, hf1, hf2, hf3⟩ := cells4 HP6.out.2.2.2.1
    go_wp2
    have hst := bX HP6.out.1 HP6.out.2.1 HP6.out.2.2.1 HP6.out.2.2.2.1 HG.out.1 (Nat.le_refl _) HG.out.2 (.int .i64 nd.f0) (.string nd.f1) (.slice A2 nd.f2.length c2) (.slice A3 nd.f3.length c3)
    refine bodyPost_ret (results_cell_row rfl _ _ w.heap.size 28 #[.int .i64 nd.f0, .string nd.f1, .slice A2 nd.f2.length c2, .slice A3 nd.f3.length c3] (0, 0) _ rfl hst.1 Tryz.underlying28 rfl p12z) rfl ?_
    rw [HE2.out]
    have q2 := HP6.out.2.2.2.2.2.1
    have q3 := HP6.out.2.2.2.2.2.2
    exact ⟨_, _, rfl, Kd.R_lower (Kd.R_mono (Kd.R_far (p := ⟨w.heap.size, 3, none⟩) (Kd.R_far (p := ⟨w.heap.size, 2, none⟩) (Kd.R_far (p := ⟨w.heap.size, 1, none⟩) (Kd.R_far (p := ⟨w.heap.size, 0, none⟩) q2 (fun _ hk => hk.2.2.2) _) (fun _ hk => hk.2.2.2) _) (fun _ hk => hk.2.2.2) _) (fun _ hk => hk.2.2.2) _) (fun _ hk => hk.1)) (by omega), Kd.R_lower (Kd.R_mono (Kd.R_far (p := ⟨w.heap.size, 3, none⟩) (Kd.R_far (p := ⟨w.heap.size, 2, none⟩) (Kd.R_far (p := ⟨w.heap.size, 1, none⟩) (Kd.R_far (p := ⟨w.heap.size, 0, none⟩) q3 (fun _ hk => hk.2.2.2) _) (fun _ hk => hk.2.2.2) _) (fun _ hk => hk.2.2.2) _) (fun _ hk => hk.2.2.2) _) (fun _ hk => hk.1)) (by omega), hst.2.1, hst.2.2.1, hst.2.2.2⟩
theorem fh (g : Nat) (s : ByteArray) (w0 : World) (hs : s.size ≤ 1073741824) (HTAB : Tabs w0) : ∀ (k : Nat) (D : Int), 0 ≤ D → D + ((k + 1 : Nat) : Int) = 61 → ∀ (w : World) (x many : Int), IsS67 w0 w g s x many D → Below w0.heap.size w0 w → 0 ≤ x → x ≤ (s.size : Int) → 0 ≤ many → many ≤ 4000 →
    Calls Tryz.prog 29 #[.pointer (some ⟨g, 0, none⟩)] w fun e w' => NodeOut w0 w w' g s (nodeF s (k + 1) x many D) e
  | 0, D, d0, hk, w, x, many, hI, hB, h0, h1, m0, m1 =>
    node_step (nodeF s 0) g s x many D w0 w _ hI hB h0 h1 m0 m1 hs HTAB d0 (by omega) (dn s 0 _) (fun h => absurd h (by omega)) rfl
  | k + 1, D, d0, hk, w, x, many, hI, hB, h0, h1, m0, m1 =>
    node_step (nodeF s (k + 1)) g s x many D w0 w _ hI hB h0 h1 m0 m1 hs HTAB d0 (by omega) (dn s (k + 1) _) (fun h W x many => fh g s w0 hs HTAB k (D + 1) (by omega) (by omega) W x many) rfl
end Go.Proofs.YtodnggilomanbaaGreatDoor.Hand
