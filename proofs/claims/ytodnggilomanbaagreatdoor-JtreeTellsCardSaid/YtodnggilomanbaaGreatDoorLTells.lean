/-
  JtreeTells: the walk.
-/
import Derived.Test.YtodnggilomanbaaGreatDoorAp
import Derived.Test.YtodnggilomanbaaGreatDoorPlainTz
import Derived.Test.YtodnggilomanbaaGreatDoorHandStep
set_option maxRecDepth 100000
set_option maxHeartbeats 8000000
namespace Go.Proofs.YtodnggilomanbaaGreatDoor.Pure
open Go.RowKit Go.Lib Go.Proofs.YtodnggilomanbaaGreatDoor.PAll Go.Proofs.YtodnggilomanbaaGreatDoorW.PrintWords Go.Proofs.YtodnggilomanbaaGreatDoorW.PrintLast Go.Proofs.YtodnggilomanbaaGreatDoorW.PrintMore Go.Proofs.YtodnggilomanbaaGreatDoor.Hand
set_option linter.unusedVariables false
set_option linter.unusedSimpArgs false
def tells_r1.T : Bool × List (List Nat × List Nat) := (true, [([], []), ([0], [0]), ([], []), ([2, 1], [2]), ([1, 3, 0, 1], [1]), ([3, 4, 0, 1, 2, 3, 4], [3])])
def tells_r1.B : List Nat := [0, 1, 0, 7, 15, 31]
theorem tells_r1.tab : rtab .any (opsOf Tryz.f4 1) = tells_r1.T := p12z
theorem tells_r1.bits : waitsOk tells_r1.T.2 tells_r1.B = true := p12z
def tells_r8.T : Bool × List (List Nat × List Nat) := (true, [([], []), ([0], [0]), ([], []), ([2, 1], [2]), ([1, 3], [1, 3]), ([4, 3], [4]), ([5], [5]), ([5], [5]), ([6, 7, 5], [5, 6, 7]), ([5, 8], [5, 8]), ([9, 5], [9]), ([10], [10]), ([10], [10]), ([11, 12, 10], [10, 11, 12]), ([10, 13], [10, 13]), ([14, 10], [14]), ([15], [15]), ([16, 15, 15], [15, 16]), ([15], [15]), ([17, 18, 17, 15], [15, 17, 18]), ([19, 15], [15, 19]), ([15, 20], [15, 20]), ([21, 19], [21]), ([22], [22]), ([22], [22]), ([23, 24, 22], [22, 23, 24]), ([22, 25], [22, 25]), ([26, 22], [26]), ([27], [27]), ([27], [27]), ([28, 29, 27, 27], [27, 28, 29]), ([27], [27]), ([27], [27]), ([32, 30, 27], [27, 32]), ([31, 33, 33, 27], [27, 31, 33]), ([30, 34, 27], [27, 30, 34]), ([27, 35], [27, 35]), ([36, 34], [36]), ([37], [37]), ([37], [37]), ([38, 39, 37, 37], [37, 38, 39]), ([40, 37], [37, 40]), ([37, 41], [37, 41]), ([42, 40], [42]), ([43], [43]), ([44, 43, 43], [43, 44]), ([43], [43]), ([46, 45, 43], [43, 46]), ([45, 47, 43], [43, 45, 47]), ([43, 48], [43, 48])])
def tells_r8.B : List Nat := [0, 1, 0, 7, 15, 31, 63, 63, 255, 511, 1023, 2047, 2047, 8191, 16383, 32767, 65535, 131071, 65535, 524287, 1048575, 2097151, 4194303, 8388607, 8388607, 33554431, 67108863, 134217727, 268435455, 268435455, 1073741823, 268435455, 268435455, 6442450943, 17179869183, 34359738367, 68719476735, 137438953471, 274877906943, 274877906943, 1099511627775, 2199023255551, 4398046511103, 8796093022207, 17592186044415, 35184372088831, 17592186044415, 140737488355327, 281474976710655, 562949953421311]
theorem tells_r8.tab : rtab .any (opsOf Tryz.f4 8) = tells_r8.T := p12z
theorem tells_r8.bits : waitsOk tells_r8.T.2 tells_r8.B = true := p12z
def tells_r22.T : Bool × List (List Nat × List Nat) := (true, [([], []), ([0], [0]), ([], []), ([1, 2, 1], [1, 2]), ([3, 3], [3]), ([4, 4], [4]), ([4, 5], [4, 5]), ([6, 5, 0, 1, 2, 3, 4, 5, 6], [6])])
def tells_r22.B : List Nat := [0, 1, 0, 7, 15, 31, 63, 127]
theorem tells_r22.tab : rtab .any (opsOf Tryz.f4 22) = tells_r22.T := p12z
theorem tells_r22.bits : waitsOk tells_r22.T.2 tells_r22.B = true := p12z
theorem iE (n m : S28) (key : ByteArray) (A2 : Option Addr) (c2 : Nat) (A3 : Option Addr) (c3 : Nat) (B2 : Option Addr) (d2 : Nat) (B3 : Option Addr) (d3 : Nat) (w : World) (hN : CN w n A2 c2 A3 c3) (hM : CN w m B2 d2 B3 d3) (HTAB : Tabs w) :
 Calls Tryz.prog 4 #[nodeV n A2 c2 A3 c3, nodeV m B2 d2 B3 d3, .string key] w fun e w' => e = .returned (.bool true) ∧ Below w.heap.size w w' := by
 obtain ⟨y, hFy, hfn⟩ := few_c n
 obtain ⟨z, hFz, hfm⟩ := few_c m
 go_enter Tryz.func4, Tryz.ntmps4
 go_upto_region 1 with (fail)
 have hbn := (NBx.new hN).below (below_alloc (Below.refl _ _) (.cells #[.int .i64 m.f0, .string m.f1, .slice B2 m.f2.length d2, .slice B3 m.f3.length d3] 28))
 have hbm := NBx.new (hM.below (below_alloc (Below.refl _ w) (.cells #[.int .i64 n.f0, .string n.f1, .slice A2 n.f2.length c2, .slice A3 n.f3.length c3] 28)))
 have hB0 := below_alloc (below_alloc (Below.refl _ w) (.cells #[.int .i64 n.f0, .string n.f1, .slice A2 n.f2.length c2, .slice A3 n.f3.length c3] 28)) (.cells #[.int .i64 m.f0, .string m.f1, .slice B2 m.f2.length d2, .slice B3 m.f3.length d3] 28)
 rw [iD w] at hbm
 generalize World.alloc (World.alloc w _) _ = W0 at hbn hbm hB0 ⊢
 obtain ⟨bn, en⟩ : ∃ b, w.heap.size = b := ⟨_, rfl⟩
 obtain ⟨bm, em⟩ : ∃ b, w.heap.size + 1 = b := ⟨_, rfl⟩
 rw [em] at hbm ⊢
 rw [en] at hbn ⊢
 have gn : w.heap.size ≤ bn := by omega
 have gm : w.heap.size ≤ bm := by omega
 have nm : bm ≠ bn := by omega
 clear en em
 obtain ⟨hn0, hn1, hn2, hn3, -⟩ := cells4 hbn.1
 obtain ⟨hm0, hm1, hm2, hm3, -⟩ := cells4 hbm.1
 refine start_ (n := 6) (S := fun w' => Cells w' [(⟨bn, 0, none⟩, .int .i64 n.f0), (⟨bn, 1, none⟩, .string n.f1), (⟨bn, 2, none⟩, .slice A2 n.f2.length c2), (⟨bn, 3, none⟩, .slice A3 n.f3.length c3), (⟨bm, 0, none⟩, .int .i64 m.f0), (⟨bm, 1, none⟩, .string m.f1), (⟨bm, 2, none⟩, .slice B2 m.f2.length d2), (⟨bm, 3, none⟩, .slice B3 m.f3.length d3)]) (ds := [4, 5]) (tf 0 6) p12z rfl rfl ⟨hn0, ⟨hn1, ⟨hn2, ⟨hn3, ⟨hm0, ⟨hm1, ⟨hm2, ⟨hm3, trivial⟩⟩⟩⟩⟩⟩⟩⟩ (fun hHeld => ?_); refine with_tabW tells_r1.tab tells_r1.bits (fun HT_ HW_ => ?_)
 refine tzz 0 (some 20) (tf 1 5) ?_
 refine tzz 2 (some 22) (tfs true [1, 1, 1, 3]) ?_
 refine czz 1 (some 21) (tf 3 3) #[nodeV n A2 c2 A3 c3, .int .i64 0] Tryz.func10 (hfn (hN.below (below_drew hB0))) ?_
 rintro e w1 ⟨N2, e2, N3, e3, rfl, hN1, hb1⟩
 refine ⟨_, rfl, hHeld.below hb1, fun hHeld => nzz (some 21) ?_⟩
 refine czz 3 (some 23) (tf 4 2) #[nodeV m B2 d2 B3 d3, .int .i64 0] Tryz.func10 (hfm (hM.below (below_step (below_drew hB0) hb1))) ?_
 rintro e w2 ⟨M2, g2, M3, g3, rfl, hM2, hb2⟩
 refine ⟨_, rfl, hHeld.below hb2, fun hHeld => nzz (some 23) ?_⟩
 have hx2 := below_step (below_drew (Below.refl _ W0)) (below_step hb1 hb2)
 have hbn2 := (hbn.below hx2).1
 have hbm2 := (hbm.below hx2).1
 have hf0 := blk_frozen hbn2 0
 have hf1 := blk_frozen hbn2 1
 have hf2 := blk_frozen hbn2 2
 have hf3 := blk_frozen hbn2 3
 obtain ⟨hz0, hz1, hz2, hz3, -⟩ := cells4 hbn2
 refine lzz 4 (tf 5 1) ?_
 have hf0 := blk_frozen hbm2 0
 have hf1 := blk_frozen hbm2 1
 have hf2 := blk_frozen hbm2 2
 have hf3 := blk_frozen hbm2 3
 obtain ⟨hz0, hz1, hz2, hz3, -⟩ := cells4 hbm2
 refine lzz 5 (tf 6 0) ?_
 refine done_ (done_of HT_.out p12z) ?_
 have hB3 := fk (fk (below_step hB0 hx2) gn (.int .i64 y.f0) (.string y.f1) (.slice N2 y.f2.length e2) (.slice N3 y.f3.length e3)) gm (.int .i64 z.f0) (.string z.f1) (.slice M2 z.f2.length g2) (.slice M3 z.f3.length g3)
 obtain ⟨hY, hZ⟩ := stored2 nm hbn2 hbm2 (blk_lt hbn.1) (blk_lt hbm.1) (Kd.R_below hN1.1 hb2) (Kd.R_below hN1.2 hb2) (Kd.R_lower hM2.1 hb1.size) (Kd.R_lower hM2.2 hb1.size)
 obtain ⟨W3, eW⟩ : ∃ W, putN (putN w2 bn y N2 e2 N3 e3) bm z M2 g2 M3 g3 = W := ⟨_, rfl⟩
 replace hB3 : Below w.heap.size w W3 := eW ▸ hB3
 rw [eW] at hY hZ
 show Exit.then _ _ Exit.normal _ (putN (putN w2 bn y N2 e2 N3 e3) bm z M2 g2 M3 g3)
 rw [eW]
 clear eW hbn hbm hB0 hn0 hn1 hn2 hn3 hm0 hm1 hm2 hm3 hbn2 hbm2 hx2 hb1 hb2 hN1 hM2 hN hM hfn hfm
 obtain ⟨hn0, hn1, hn2, hn3, -⟩ := cells4 hY.1
 have hF8 : Fw 8 y := Fw_succ 7 y (Fw_succ 6 y hFy)
 have hG8 : Fw 8 z := Fw_succ 7 z (Fw_succ 6 z hFz)
 have hcall := own_c hF8 hY.2
 go_upto_region 3 with (first
  | (go_at_call 12; refine hcall.mono ?_; rintro e w4 ⟨O2, o2, O3, o3, rfl, hO4, hb4⟩; have hcall2 := copyR_c hF8 hO4)
  | (go_at_call 11; refine hcall2.mono ?_; rintro e w5 ⟨P2, p2, P3, p3, rfl, hP5, hb5⟩))
 clear hn0 hn1 hn2 hn3 hcall hcall2
 have hb := below_step (below_step hb4 hb5) (below_alloc (Below.refl _ w5) (.cells #[.int .i64 (toR y).f0, .string (toR y).f1, .slice P2 (toR y).f2.length p2, .slice P3 (toR y).f3.length p3] 37))
 have hW := RBx.new hP5
 have hY := hY.below hb
 have hZ := hZ.below hb
 have hB := below_step hB3 hb
 have gw := (below_step hB3 (below_step hb4 hb5)).size
 obtain ⟨bw, ebw⟩ : ∃ b, w5.heap.size = b := ⟨_, rfl⟩
 rw [ebw] at hW gw ⊢
 clear hb hb4 hb5 hO4 hP5 hB3 ebw
 generalize World.alloc w5 _ = W5 at hW hY hZ hB ⊢
 obtain ⟨tx, ex, htx, hrx⟩ := text_c hF8
 have hT := HTAB.below hB
 have hcall := htx hY.2 hT
 obtain ⟨hn0, hn1, hn2, hn3, -⟩ := cells4 hY.1
 go_upto_region 4 with (go_at_call 13; refine hcall.mono ?_; rintro e w6 ⟨rfl, hb6⟩)
 clear hn0 hn1 hn2 hn3 hcall htx hT
 have hW := hW.below hb6
 have hY := hY.below hb6
 have hZ := hZ.below hb6
 have hB := below_step hB hb6
 have hcall := hrx hW.2
 obtain ⟨hw0, hw1, hw2, hw3, -⟩ := cells4 hW.1
 go_upto_region 5 with (go_at_call 14; refine hcall.mono ?_; rintro e w7 ⟨rfl, hb7⟩)
 clear hw0 hw1 hw2 hw3 hcall hrx hb6
 have hW := hW.below hb7
 have hY := hY.below hb7
 have hZ := hZ.below hb7
 have hB := below_step hB hb7
 clear hb7
 obtain ⟨⟨x, is⟩, hx⟩ : ∃ p, getN y key = p := ⟨_, rfl⟩
 have hX8 := getN_Fw hF8 key
 have hcall := get_c hF8 key hY.2
 have hcallR := fun (W : World) (h : RBx W bw (toR y) P2 p2 P3 p3) => getR_c hF8 key h.2
 rw [hx] at hX8 hcall hcallR
 have HU := hid (And.intro hY (And.intro hW hB))
 have HCR := hid hcallR
 clear hcallR hx
 obtain ⟨hn0, hn1, hn2, hn3, -⟩ := cells4 hY.1
 go_upto_region 6 with (go_at_call 15; refine hcall.mono ?_; rintro e w8 ⟨X2, x2, X3, x3, rfl, hX, hXR, hb8⟩)
 clear hn0 hn1 hn2 hn3 hcall
 have hb := below_step hb8 (below_alloc (Below.refl _ w8) (.cells #[.int .i64 x.f0, .string x.f1, .slice X2 x.f2.length x2, .slice X3 x.f3.length x3] 28))
 have hX := NBx.new hX
 have b8 := below_alloc (Below.refl w8.heap.size w8) (.cells #[.int .i64 x.f0, .string x.f1, .slice X2 x.f2.length x2, .slice X3 x.f3.length x3] 28)
 have HXR := hid hXR
 have hY := hY.below hb
 have hZ := hZ.below hb
 have hW := hW.below hb
 have hB := below_step hB hb
 obtain ⟨bx, ebx⟩ : ∃ b, w8.heap.size = b := ⟨_, rfl⟩
 have EX := hid (Nat.le_of_eq ebx)
 rw [ebx] at hX ⊢
 have HB8 := hid hb
 clear hb hb8 hXR ebx
 generalize World.alloc w8 _ = W8 at hX b8 hY hZ hW hB HB8 ⊢
 have B8 := hid b8
 clear b8
 have hcall := HCR.out _ hW
 obtain ⟨hw0, hw1, hw2, hw3, -⟩ := cells4 hW.1
 go_upto_region 7 with (go_at_call 16; refine hcall.mono ?_; rintro e w9 ⟨Y2, y2, Y3, y3, rfl, hV, hb9⟩)
 clear hw0 hw1 hw2 hw3 hcall HCR
 have hb := below_step hb9 (below_alloc (Below.refl _ w9) (.cells #[.int .i64 (toR x).f0, .string (toR x).f1, .slice Y2 (toR x).f2.length y2, .slice Y3 (toR x).f3.length y3] 37))
 have hV := RBx.new hV
 have hX := hX.below hb
 have b8 := below_step B8.out hb
 have hY := hY.below hb
 have hZ := hZ.below hb
 have hW := hW.below hb
 have hB := below_step hB hb
 obtain ⟨by_, eby⟩ : ∃ b, w9.heap.size = b := ⟨_, rfl⟩
 rw [eby] at hV ⊢
 have HB9 := hid (below_step HB8.out hb)
 clear hb hb9 eby HB8 B8
 generalize World.alloc w9 _ = W9 at hV hX b8 hY hZ hW hB HB9 ⊢
 have G9 := hid (And.intro (blk_lt hX.1) (And.intro HB9.out.size b8.size))
 have B8 := hid b8
 clear b8
 have hcall := copy_c hF8 hY.2
 obtain ⟨hn0, hn1, hn2, hn3, -⟩ := cells4 hY.1
 go_upto_region 8 with (go_at_call 17; refine hcall.mono ?_; rintro e w10 ⟨C2, k2, C3, k3, rfl, hC, hC2, hC3, hb10⟩)
 clear hn0 hn1 hn2 hn3 hcall
 have hb := below_step hb10 (below_alloc (Below.refl _ w10) (.cells #[.int .i64 y.f0, .string y.f1, .slice C2 y.f2.length k2, .slice C3 y.f3.length k3] 28))
 have hC := NBx.new hC
 have b10 := below_alloc (Below.refl w10.heap.size w10) (.cells #[.int .i64 y.f0, .string y.f1, .slice C2 y.f2.length k2, .slice C3 y.f3.length k3] 28)
 have HCR := hid (And.intro hC2 (And.intro hC3 hb10.size))
 have hV := hV.below hb
 have hX := hX.below hb
 have b8 := below_step B8.out hb
 have hY := hY.below hb
 have hZ := hZ.below hb
 have hW := hW.below hb
 have hB := below_step hB hb
 obtain ⟨bc, ebc⟩ : ∃ b, w10.heap.size = b := ⟨_, rfl⟩
 have EC := hid (Nat.le_of_eq ebc)
 rw [ebc] at hC ⊢
 have HB10 := hid (below_step HB9.out hb)
 clear hb hb10 ebc HB9 B8 hC2 hC3
 generalize World.alloc w10 _ = W10 at hC b8 b10 hV hX hY hZ hW hB HB10 ⊢
 have B8 := hid b8
 have B10 := hid b10
 clear b8 b10
 obtain ⟨hn0, hn1, hn2, hn3, -⟩ := cells4 hY.1
 obtain ⟨hm0, hm1, hm2, hm3, -⟩ := cells4 hZ.1
 obtain ⟨hw0, hw1, hw2, hw3, -⟩ := cells4 hW.1
 obtain ⟨hx0, hx1, hx2, hx3, -⟩ := cells4 hX.1
 obtain ⟨hy0, hy1, hy2, hy3, -⟩ := cells4 hV.1
 obtain ⟨hc0, hc1, hc2, hc3, -⟩ := cells4 hC.1
 refine start_ (n := 50) (S := fun w' => Cells w' [(⟨bn, 0, none⟩, .int .i64 y.f0), (⟨bn, 1, none⟩, .string y.f1), (⟨bn, 2, none⟩, .slice N2 y.f2.length e2), (⟨bn, 3, none⟩, .slice N3 y.f3.length e3), (⟨bm, 0, none⟩, .int .i64 z.f0), (⟨bm, 1, none⟩, .string z.f1), (⟨bm, 2, none⟩, .slice M2 z.f2.length g2), (⟨bm, 3, none⟩, .slice M3 z.f3.length g3), (⟨bw, 0, none⟩, .int .i64 (toR y).f0), (⟨bw, 1, none⟩, .string (toR y).f1), (⟨bw, 2, none⟩, .slice P2 (toR y).f2.length p2), (⟨bw, 3, none⟩, .slice P3 (toR y).f3.length p3), (⟨bx, 0, none⟩, .int .i64 x.f0), (⟨bx, 1, none⟩, .string x.f1), (⟨bx, 2, none⟩, .slice X2 x.f2.length x2), (⟨bx, 3, none⟩, .slice X3 x.f3.length x3), (⟨by_, 0, none⟩, .int .i64 (toR x).f0), (⟨by_, 1, none⟩, .string (toR x).f1), (⟨by_, 2, none⟩, .slice Y2 (toR x).f2.length y2), (⟨by_, 3, none⟩, .slice Y3 (toR x).f3.length y3), (⟨bc, 0, none⟩, .int .i64 y.f0), (⟨bc, 1, none⟩, .string y.f1), (⟨bc, 2, none⟩, .slice C2 y.f2.length k2), (⟨bc, 3, none⟩, .slice C3 y.f3.length k3)]) (ds := []) (tf 0 50) p12z rfl rfl ⟨hn0, ⟨hn1, ⟨hn2, ⟨hn3, ⟨hm0, ⟨hm1, ⟨hm2, ⟨hm3, ⟨hw0, ⟨hw1, ⟨hw2, ⟨hw3, ⟨hx0, ⟨hx1, ⟨hx2, ⟨hx3, ⟨hy0, ⟨hy1, ⟨hy2, ⟨hy3, ⟨hc0, ⟨hc1, ⟨hc2, ⟨hc3, trivial⟩⟩⟩⟩⟩⟩⟩⟩⟩⟩⟩⟩⟩⟩⟩⟩⟩⟩⟩⟩⟩⟩⟩⟩ (fun hHeld => ?_); refine with_tabW tells_r8.tab tells_r8.bits (fun HT_ HW_ => ?_)
 have hd10 := below_drew (Below.refl W10.heap.size W10)
 refine tzz 0 (some 51) (tf 1 49) ?_
 refine tzz 2 (some 53) (tfs true [1, 1, 1, 47]) ?_
 refine czz 1 (some 52) (tf 3 47) #[nodeV y N2 e2 N3 e3] Tryz.func18 (check_c hF8 (hY.2.below hd10) (HTAB.below (below_step hB hd10))) ?_
 rintro e w11 ⟨rfl, hb11⟩
 have hd11 := below_step hd10 hb11
 refine ⟨_, rfl, hHeld.below hb11, fun hHeld => nzz (some 52) ?_⟩
 refine czz 3 (some 54) (tf 4 46) #[nodeR (toR y) P2 p2 P3 p3] Tryz.func19 (checkR_c hF8 (hW.2.below hd11)) ?_
 rintro e w12 ⟨rfl, hb12⟩
 have hd12 := below_step hd11 hb12
 refine ⟨_, rfl, hHeld.below hb12, fun hHeld => nzz (some 54) ?_⟩
 refine pzz 4 (some 55) (tf 5 45) ?_
 refine pzz 5 (some 56) (tf 6 44) ?_
 refine pzz 6 (some 57) (tf 7 43) ?_
 refine pzz 7 (some 58) (tf 8 42) ?_
 refine pzz 8 (some 59) (tf 9 41) ?_
 refine pzz 9 (some 60) (tf 10 40) ?_
 refine pzz 10 (some 61) (tf 11 39) ?_
 refine pzz 11 (some 62) (tf 12 38) ?_
 refine pzz 12 (some 63) (tf 13 37) ?_
 refine pzz 13 (some 64) (tf 14 36) ?_
 refine pzz 14 (some 65) (tf 15 35) ?_
 refine pzz 15 (some 66) (tf 16 34) ?_
 refine tzz 16 (some 67) (tf 17 33) ?_
 refine tzz 18 (some 69) (tfs true [17, 1, 1, 31]) ?_
 refine czz 17 (some 68) (tf 19 31) #[nodeV x X2 x2 X3 x3] Tryz.func12 (own_c hX8 (hX.2.below hd12)) ?_
 rintro e w13 ⟨Q2, q2, Q3, q3, rfl, hQ, hb13⟩
 have hd13 := below_step hd12 hb13
 refine ⟨_, rfl, hHeld.below hb13, fun hHeld => nzz (some 68) ?_⟩
 refine czz 19 (some 70) (tf 20 30) #[nodeR (toR x) Q2 q2 Q3 q3, nodeR (toR x) Y2 y2 Y3 y3] Tryz.func20 (fj hX8 hQ (hV.2.below hd13)) ?_
 rintro e w14 ⟨rfl, hb14⟩
 have hd14 := below_step hd13 hb14
 refine ⟨_, rfl, hHeld.below hb14, fun hHeld => nzz (some 70) ?_⟩
 refine pzz 20 (some 71) (tf 21 29) ?_
 refine pzz 21 (some 72) (tf 22 28) ?_
 refine pzz 22 (some 73) (tf 23 27) ?_
 refine pzz 23 (some 74) (tf 24 26) ?_
 refine pzz 24 (some 75) (tf 25 25) ?_
 refine pzz 25 (some 76) (tf 26 24) ?_
 refine pzz 26 (some 77) (tf 27 23) ?_
 refine pzz 27 (some 78) (tf 28 22) ?_
 refine tzz 28 (some 79) (tf 29 21) ?_
 refine tzz 29 (some 80) (tf 30 20) ?_
 refine tzz 31 (some 82) (tfs true [30, 1, 1, 18]) ?_
 refine tzz 32 (some 83) (tfs true [30, 1, 2, 17]) ?_
 refine czz 30 (some 81) (tf 33 17) #[nodeV y N2 e2 N3 e3, nodeV z M2 g2 M3 g3] Tryz.func21 (same_c hF8 (hY.2.below hd14) (hZ.2.below hd14)) ?_
 rintro e w15 ⟨rfl, hb15⟩
 have hd15 := below_step hd14 hb15
 refine ⟨_, rfl, hHeld.below hb15, fun hHeld => nzz (some 81) ?_⟩
 refine czz 33 (some 84) (tf 34 16) #[nodeV z M2 g2 M3 g3] Tryz.func12 (own_c hG8 (hZ.2.below hd15)) ?_
 rintro e w16 ⟨R2, r2, R3, r3, rfl, hR, hb16⟩
 have hd16 := below_step hd15 hb16
 refine ⟨_, rfl, hHeld.below hb16, fun hHeld => nzz (some 84) ?_⟩
 refine czz 34 (some 85) (tf 35 15) #[nodeR (toR y) P2 p2 P3 p3, nodeR (toR z) R2 r2 R3 r3] Tryz.func20 (sameR_c hF8 hG8 (hW.2.below hd16) hR) ?_
 rintro e w17 ⟨rfl, hb17⟩
 have hd17 := below_step hd16 hb17
 refine ⟨_, rfl, hHeld.below hb17, fun hHeld => nzz (some 85) ?_⟩
 refine pzz 35 (some 86) (tf 36 14) ?_
 refine pzz 36 (some 87) (tf 37 13) ?_
 refine pzz 37 (some 88) (tf 38 12) ?_
 refine tzz 38 (some 89) (tf 39 11) ?_
 refine tzz 39 (some 90) (tf 40 10) ?_
 refine czz 40 (some 91) (tf 41 9) #[nodeV y N2 e2 N3 e3, nodeV y C2 k2 C3 k3] Tryz.func21 (same_self hF8 (hY.2.below hd17) (hC.2.below hd17)) ?_
 rintro e w18 ⟨rfl, hb18⟩
 have hd18 := below_step hd17 hb18
 refine ⟨_, rfl, hHeld.below hb18, fun hHeld => nzz (some 91) ?_⟩
 refine pzz 41 (some 92) (tf 42 8) ?_
 refine pzz 42 (some 93) (tf 43 7) ?_
 refine pzz 43 (some 94) (tf 44 6) ?_
 refine tzz 44 (some 95) (tf 45 5) ?_
 refine tzz 46 (some 97) (tfs true [45, 1, 1, 3]) ?_
 refine czz 45 (some 96) (tf 47 3) #[nodeV y N2 e2 N3 e3] Tryz.func22 (count_c hF8 (hY.2.below hd18)) ?_
 rintro e w19 ⟨rfl, hb19⟩
 have hd19 := below_step hd18 hb19
 refine ⟨_, rfl, hHeld.below hb19, fun hHeld => nzz (some 96) ?_⟩
 refine czz 47 (some 98) (tf 48 2) #[nodeR (toR y) P2 p2 P3 p3] Tryz.func23 (countR_c hF8 (hW.2.below hd19)) ?_
 rintro e w20 ⟨rfl, hb20⟩
 have hd20 := below_step hd19 hb20
 refine ⟨_, rfl, hHeld.below hb20, fun hHeld => nzz (some 98) ?_⟩
 refine pzz 48 (some 99) (tf 49 1) ?_
 refine pzz 49 (some 100) (tf 50 0) ?_
 refine done_ (done_of HT_.out p12z) ?_
 obtain ⟨rl, rx, hTl⟩ := Tl.init (U := w7) (hC.below hd20).1 (hX.below hd20).1 (below_step HB10.out hd20) EC.out EX.out G9.out.1 G9.out.2.1 G9.out.2.2 HCR.out.1 HCR.out.2.1 HXR.out (below_step B10.out hd20) (below_step B8.out hd20) HCR.out.2.2
 have HT := hid (HTAB.below (below_step hB hd20))
 have hl : y.f2.length ≤ 8 ∧ y.f3.length ≤ 8 ∧ x.f3.length ≤ 8 := ⟨(Fw_len hF8).1, (Fw_len hF8).2, (Fw_len hX8).2⟩
 obtain ⟨hl2, hl3, hlx⟩ := hl
 clear hn0 hn1 hn2 hn3 hm0 hm1 hm2 hm3 hw0 hw1 hw2 hw3 hx0 hx1 hx2 hx3 hy0 hy1 hy2 hy3 hc0 hc1 hc2 hc3 hd10 hd11 hd12 hd13 hd14 hd15 hd16 hd17 hd18 hd19 hb11 hb12 hb13 hb14 hb15 hb16 hb17 hb18 hb19 hb20 hQ hR hC hX hV hY hZ hW hB HB10 B8 B10 EC EX G9 HCR HXR
 go_upto_region 10 with (fail)
 go_wp2
 go_loopw [17] (fun v wr => ∃ (i : Nat) (ks : List ByteArray), v = .int .i64 i ∧ i ≤ y.f2.length ∧ Tl y x w7 bc bx C2 k2 C3 k3 X2 x2 X3 x3 wr ks rl rx) (fun v _ => y.f2.length - (intOf v).toNat)
 case atStart => exact ⟨0, y.f2, rfl, Nat.zero_le _, hTl⟩
 case round =>
  clear hTl
  obtain ⟨i, ks, rfl, hi, hT1⟩ := hrel
  have hc2 := cell_of (i := 2) hT1.c rfl
  rcases Nat.lt_or_ge i y.f2.length with hlt | hge
  ·have hc0 : (0 ≤ (i : Int)) = True := eq_true (by omega)
   have hc1 : ((i : Int) < (y.f2.length : Int)) = True := eq_true (by omega)
   have hb0 : decide ((i : Int) < (y.f2.length : Int)) = true := decide_eq_true (by omega)
   obtain ⟨ad, u, e1, hu, hf, hT2⟩ := hT1.kstep hlt ⟨#[111, 116, 104, 101, 114]⟩
   subst e1
   have HT2 := hid hT2
   clear hT1 hT2
   go_wp2
   exact ⟨⟨i + 1, _, p91z, hlt, HT2.out⟩, p93z⟩
  ·have hb0 : decide ((i : Int) < (y.f2.length : Int)) = false := decide_eq_false (by omega)
   have HT2 := hid hT1
   clear hT1
   go_wp2
   clear hc2 hb0 hge hi
   go_loopw [18] (fun v wr => ∃ (i : Nat) (rl : List (List Value)), v = .int .i64 i ∧ i ≤ y.f3.length ∧ Tl y x w7 bc bx C2 k2 C3 k3 X2 x2 X3 x3 wr ks rl rx) (fun v _ => y.f3.length - (intOf v).toNat)
   case atStart => exact ⟨0, rl, rfl, Nat.zero_le _, HT2.out⟩
   case round =>
    clear HT2
    obtain ⟨i, rl, rfl, hi, hT1⟩ := hrel
    have hc2 := cell_of (i := 3) hT1.c rfl
    rcases Nat.lt_or_ge i y.f3.length with hlt | hge
    ·have hc0 : (0 ≤ (i : Int)) = True := eq_true (by omega)
     have hc1 : ((i : Int) < (y.f3.length : Int)) = True := eq_true (by omega)
     have hb0 : decide ((i : Int) < (y.f3.length : Int)) = true := decide_eq_true (by omega)
     obtain ⟨ad, W1, e1, hput, hT2⟩ := hT1.lstep hlt
     subst e1
     have HT2 := hid hT2
     clear hT1 hT2
     go_wp2_with ((with_reducible refine gate_ (.store 28 (.tmp 123) (.tmp 122)) rfl ?_); refine store_event rfl rfl rfl (store_run rfl rfl rfl hput) ?_; rintro w' rfl)
     exact ⟨⟨i + 1, _, p91z, hlt, HT2.out⟩, p93z⟩
    ·have hb0 : decide ((i : Int) < (y.f3.length : Int)) = false := decide_eq_false (by omega)
     have HT2 := hid hT1.tx
     clear hT1
     go_wp2
     clear hc2 hb0 hge hi
     go_loopw [19] (fun v wr => ∃ (i : Nat) (rx : List (List Value)), v = .int .i64 i ∧ i ≤ x.f3.length ∧ Tx x w7 bx X2 x2 X3 x3 wr rx) (fun v _ => x.f3.length - (intOf v).toNat)
     case atStart => exact ⟨0, rx, rfl, Nat.zero_le _, HT2.out⟩
     case round =>
      clear HT2
      obtain ⟨i, rx, rfl, hi, hT1⟩ := hrel
      have hc2 := cell_of (i := 3) hT1.z rfl
      rcases Nat.lt_or_ge i x.f3.length with hlt | hge
      ·have hc0 : (0 ≤ (i : Int)) = True := eq_true (by omega)
       have hc1 : ((i : Int) < (x.f3.length : Int)) = True := eq_true (by omega)
       have hb0 : decide ((i : Int) < (x.f3.length : Int)) = true := decide_eq_true (by omega)
       obtain ⟨ad, W1, e1, hput, hT2⟩ := hT1.step hlt
       subst e1
       have HT2 := hid hT2
       clear hT1 hT2
       go_wp2_with ((with_reducible refine gate_ (.store 28 (.tmp 135) (.tmp 134)) rfl ?_); refine store_event rfl rfl rfl (store_run rfl rfl rfl hput) ?_; rintro w' rfl)
       exact ⟨⟨i + 1, _, p91z, hlt, HT2.out⟩, p93z⟩
      ·have hb0 : decide ((i : Int) < (x.f3.length : Int)) = false := decide_eq_false (by omega)
       have HT2 := hid hT1.bl
       clear hT1
       go_upto_region 22 with (fail)
       clear hc2 hb0 hge hi
       have hY := HU.out.1.below HT2.out
       have hW := HU.out.2.1.below HT2.out
       have hT := HTAB.below (below_step HU.out.2.2 HT2.out)
       obtain ⟨hn0, hn1, hn2, hn3, -⟩ := cells4 hY.1
       obtain ⟨hw0, hw1, hw2, hw3, -⟩ := cells4 hW.1
       refine start_ (n := 8) (S := fun w' => Cells w' [(⟨bn, 0, none⟩, .int .i64 y.f0), (⟨bn, 1, none⟩, .string y.f1), (⟨bn, 2, none⟩, .slice N2 y.f2.length e2), (⟨bn, 3, none⟩, .slice N3 y.f3.length e3), (⟨bw, 0, none⟩, .int .i64 (toR y).f0), (⟨bw, 1, none⟩, .string (toR y).f1), (⟨bw, 2, none⟩, .slice P2 (toR y).f2.length p2), (⟨bw, 3, none⟩, .slice P3 (toR y).f3.length p3)]) (ds := []) (tf 0 8) p12z rfl rfl ⟨hn0, ⟨hn1, ⟨hn2, ⟨hn3, ⟨hw0, ⟨hw1, ⟨hw2, ⟨hw3, trivial⟩⟩⟩⟩⟩⟩⟩⟩ (fun hHeld => ?_); refine with_tabW tells_r22.tab tells_r22.bits (fun HT_ HW_ => ?_)
       have hd0 := below_drew (Below.refl wr.heap.size wr)
       refine tzz 0 (some 136) (tf 1 7) ?_
       refine tzz 2 (some 138) (tfs true [1, 1, 1, 5]) ?_
       refine czz 1 (some 137) (tf 3 5) #[nodeV y N2 e2 N3 e3] Tryz.func12 (own_c hF8 (hY.2.below hd0)) ?_
       rintro e w21 ⟨Q2, q2, Q3, q3, rfl, hQ, hb21⟩
       have hd1 := below_step hd0 hb21
       refine ⟨_, rfl, hHeld.below hb21, fun hHeld => nzz (some 137) ?_⟩
       refine czz 3 (some 139) (tf 4 4) #[nodeR (toR y) Q2 q2 Q3 q3, nodeR (toR y) P2 p2 P3 p3] Tryz.func20 (fj hF8 hQ (hW.2.below hd1)) ?_
       rintro e w22 ⟨rfl, hb22⟩
       have hd2 := below_step hd1 hb22
       refine ⟨_, rfl, hHeld.below hb22, fun hHeld => nzz (some 139) ?_⟩
       refine pzz 4 (some 140) (tf 5 3) ?_
       refine czz 5 (some 141) (tf 6 2) #[] Tryz.func9 (cj.calls 60 true _ (if_pos (Nat.le_refl 60)) (hT.below hd2)) ?_
       rintro e w23 ⟨rfl, hb23⟩
       have hd3 := below_step hd2 hb23
       refine ⟨_, rfl, hHeld.below hb23, fun hHeld => nzz (some 141) ?_⟩
       refine pzz 6 (some 142) (tf 7 1) ?_
       refine pzz 7 (some 6) (tf 8 0) ?_
       refine done_ (done_of HT_.out p12z) ?_
       go_wp2
       go_ret
       exact ⟨rfl, below_step (below_step HU.out.2.2 HT2.out) hd3⟩
end Go.Proofs.YtodnggilomanbaaGreatDoor.Pure
