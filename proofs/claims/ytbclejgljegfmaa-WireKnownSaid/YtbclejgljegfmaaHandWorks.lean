/-
  The chapter's records: signetrylaw01.works answers true: the walk.
-/
import Derived.Test.YtbclejgljegfmaaAp
import Derived.Test.YtbclejgljegfmaaGB
import Derived.Test.YtbclejgljegfmaaGC
import Derived.Test.YtbclejgljegfmaaGP
import Derived.Test.YtbclejgljegfmaaGVz
set_option maxRecDepth 100000
set_option maxHeartbeats 8000000
namespace Go.Proofs.Ytbclejgljegfmaa.Hand
set_option linter.unusedVariables false
set_option linter.unusedSimpArgs false
open Go.RowKit Go.Proofs.YtbclejgljegfmaaW.PrintWords Go.Proofs.YtbclejgljegfmaaW.PrintLast Go.Proofs.YtbclejgljegfmaaW.PrintMore Go.Proofs.Ytbclejgljegfmaa.PAll

def ac.f : Option Bool := some true
/-- A list of bytes that is written out: it lies in a new block. -/
theorem C_new (w : World) (l : List Int) (hl : l.length ≤ 1000) : (Kd.int .u8).C (w.alloc (.cells (nums .u8 l).toArray 5)) (some ⟨w.heap.size, 0, none⟩) l.length l := by
  refine ⟨rfl, by omega, fun hp => ⟨_, rfl, fun j p hj => ⟨[.int .u8 p], rfl, rfl, fun i u hi => ?_⟩⟩⟩
  have hi0 : i = 0 := by
    have := (List.getElem?_eq_some_iff.1 hi).1
    simpa using this
  subst hi0
  have hjl := (List.getElem?_eq_some_iff.1 hj).1
  simp only [List.getElem?_cons_zero, Option.some.injEq] at hi
  subst hi
  have hsz : (Kd.int .u8).sz = 1 := rfl
  have ha : (⟨w.heap.size, 0, none⟩ : Addr).add (j * (Kd.int .u8).sz + 0) = ⟨w.heap.size, j, none⟩ := by
    rw [hsz, Nat.mul_one, Nat.add_zero, Addr.add_lit, Nat.zero_add]
  rw [ha, cell_of_row _ _ j _ 5 (0, 0) (World.alloc_heap_new w _)]
  simp [nums, hj]

theorem m1 : wire_Var.f [] 300 = some [172, 2] := p162z
theorem m2 : ab.f [172, 2] [172, 2] = some true := p162z
theorem m3 : wire_Size.f 300 = some 2 := p162z
theorem m4 : wire_Zig.f (-1) = some 1 := p162z
theorem m5 : wire_Zig.f 1 = some 2 := p162z
theorem m6 : wire_Zag.f 3 = some (-2) := p162z
theorem m7 : wire_Make.f 40 1 0 150 [] = some (1, 0, 150, [], [8, 150, 1], 0) := p162z
theorem m8 : wire_Make.f 40 2 2 0 [116, 101] = some (2, 2, 0, [116, 101], [18, 2, 116, 101], 0) := p162z
theorem m9 : wire_Make.f 40 3 5 1 [] = some (3, 5, 1, [], [29, 1, 0, 0, 0], 0) := p162z
theorem m10 : wire_Make.f 40 4 3 0 [] = some (0, 0, 0, [], [], 10) := p162z
theorem m11 : wire_Make.f 40 0 0 0 [] = some (0, 0, 0, [], [], 9) := p162z
theorem m12 : cF.f 40 1 0 150 [] [8, 150, 1] 0 [8, 150, 1] = some true := p162z
theorem m13 : cF.f 40 2 2 0 [116, 101] [18, 2, 116, 101] 0 [18, 2, 116, 101] = some true := p162z
theorem m14 : cF.f 40 3 5 1 [] [29, 1, 0, 0, 0] 0 [29, 1, 0, 0, 0] = some true := p162z
theorem m15 : aN.f 40 [8, 150, 1, 18, 0] = some ([⟨1, 0, 150, [], [8, 150, 1]⟩, ⟨2, 2, 0, [], [18, 0]⟩], 0) := by rfl
theorem m16 : aN.f 40 [8, 150] = some ([], 3) := by rfl
theorem m17 : aN.f 40 [11] = some ([], 10) := by rfl
theorem m18 : aN.f 40 [0, 1] = some ([], 4) := by rfl
theorem m19 : wire_Same.f 40 1 0 150 [] [8, 150, 1] 1 0 150 [] [8, 150, 1] = some true := p162z

theorem C_len {w : World} {A : Option Addr} {l : List Int} {n : Nat} (h : (Kd.int .u8).C w A l.length l) (hn : l.length = n) : (Kd.int .u8).C w A n l := by rw [← hn]; exact h
def ac.T14 : Bool × List (List Nat × List Nat) := (true, [([], []), ([0], [0]), ([1], [1]), ([2], [2]), ([3], [3]), ([4, 3], [3, 4]), ([5, 3], [3, 5]), ([3], [3]), ([6, 7, 3, 3], [3, 6, 7]), ([3, 8], [3, 8]), ([9, 8], [9]), ([10], [10]), ([11, 10], [10, 11]), ([12, 10], [10, 12]), ([13, 10], [10, 13]), ([14, 10], [10, 14]), ([10, 15], [10, 15]), ([16, 10], [16]), ([17], [17]), ([18, 17], [17, 18]), ([19, 17], [17, 19]), ([20, 17], [17, 20]), ([21, 17], [17, 21]), ([22, 17], [17, 22]), ([17, 23], [17, 23]), ([24, 17], [24]), ([25], [25]), ([26, 25], [25, 26]), ([25, 27], [25, 27]), ([28, 25], [28]), ([29], [29]), ([30, 29], [29, 30]), ([29, 31], [29, 31]), ([32, 29], [32]), ([33], [33]), ([34, 33], [33, 34]), ([33, 35], [33, 35]), ([36, 33], [36]), ([37], [37]), ([38, 37], [37, 38]), ([37, 39], [37, 39]), ([40, 37, 0, 1, 2, 3, 4, 5, 6, 7, 8, 9, 10, 11, 12, 13, 14, 15, 16, 17, 18, 19, 20, 21, 22, 23, 24, 25, 26, 27, 28, 29, 30, 31, 32, 33, 34, 35, 36, 37, 38, 39, 40], [40])])
def ac.B14 : List Nat := [0, 1, 3, 7, 15, 31, 63, 15, 255, 511, 1023, 2047, 4095, 8191, 16383, 32767, 65535, 131071, 262143, 524287, 1048575, 2097151, 4194303, 8388607, 16777215, 33554431, 67108863, 134217727, 268435455, 536870911, 1073741823, 2147483647, 4294967295, 8589934591, 17179869183, 34359738367, 68719476735, 137438953471, 274877906943, 549755813887, 1099511627775, 2199023255551]
theorem ac.tab14 : rtab .any (opsOf Try.f22 14) = ac.T14 := p16z
theorem ac.bits14 : waitsOk ac.T14.2 ac.B14 = true := p16z
theorem Rec5.alloc_ {W : World} {D : Nat} {a b n : Int} {v3 v4 : Value} (h : Rec5 W D a b n v3 v4) (o : Obj) : Rec5 (W.alloc o) D a b n v3 v4 := h.grown (World.grownBy_alloc W o none) (by simp)
theorem below_box {W W1 : World} {D : Nat} {a b n : Int} {v3 v4 : Value} (hb : Below W.heap.size W W1) (h : Rec5 W D a b n v3 v4) : Rec5 W1 D a b n v3 v4 := h.grown (grown_of_below hb none) (by simp)
theorem kN (w : World) : Calls Try.prog 22 #[] w fun e w' => e = .returned (.bool true) ∧ Below w.heap.size w w' := by
 have HB := hid (Below.refl w.heap.size w)
 go_enter Try.func22, Try.ntmps22
 go_wp2_with fail
 refine (wire_Var.calls none 0 [] 300 _ _ (Kd.C_nil _ _) (Nat.le_refl _) m1).mono ?_
 rintro e w1 ⟨v1, rfl, hr1, hb1⟩
 obtain ⟨A1, c1, hv1, hc1, hC1⟩ := Kd.R_reads hr1
 have hB1 : Below w.heap.size w w1 := hb1
 subst hv1
 clear hr1 hb1
 simp only [List.length_cons, List.length_nil, Nat.reduceAdd, Nat.zero_add] at hc1 ⊢
 have hs1 := hB1.size
 go_wp2_with fail
 refine (ab.calls A1 c1 [172, 2] _ 2 [172, 2] true _ (Kd.C_below hC1 (below_alloc (Below.refl _ _) _)) hc1 (C_new w1 [172, 2] (by decide)) (Nat.le_refl _) m2).mono ?_
 rintro e w2 ⟨rfl, hb2⟩
 obtain ⟨n2, rfl⟩ := hb2.out
 have hB2 : Below w.heap.size w (w1.alloc (.cells (nums .u8 [172, 2]).toArray 5)) := hB1.alloc hs1 _
 clear hC1 hc1 hb2 hB1 hs1
 generalize w1.alloc (.cells (nums .u8 [172, 2]).toArray 5) = w2 at hB2 ⊢
 have hs2 := hB2.size
 go_wp2_with fail
 refine (wire_Size.calls 300 2 _ m3).mono ?_
 rintro e w3 ⟨rfl, hb3⟩
 have hB3 : Below w.heap.size w w3 := (pw_below_drewN hB2 n2).trans (hb3.mono hs2)
 clear hB2 hb3 hs2
 go_wp2_with fail
 refine (wire_Zig.calls (-1) 1 _ m4).mono ?_
 rintro e w4 ⟨rfl, hb4⟩
 obtain ⟨n4, rfl⟩ := hb4.out
 go_wp2_with fail
 refine (wire_Zig.calls 1 2 _ m5).mono ?_
 rintro e w4 ⟨rfl, hb5⟩
 obtain ⟨n5, rfl⟩ := hb5.out
 go_wp2_with fail
 refine (wire_Zag.calls 3 (-2) _ m6).mono ?_
 rintro e w4 ⟨rfl, hb6⟩
 obtain ⟨n6, rfl⟩ := hb6.out
 go_wp2_with fail
 have hBa0 : Below w.heap.size w (w3.drewN (n4 + n5 + n6)) := pw_below_drewN hB3 _
 refine (wire_Make.calls 40 1 0 150 none 0 [] 1 0 150 [] [8, 150, 1] 0 _ (Kd.C_nil _ _) (Nat.le_refl _) m7).mono ?_
 rintro e wa ⟨va3, va4, rfl, hra3, hra4, hba⟩
 obtain ⟨Aa3, ca3, hva3, hca3, hCa3⟩ := Kd.R_reads hra3
 rw [show ([] : List Int).length = 0 from rfl] at hva3
 subst hva3
 obtain ⟨Aa4, ca4, hva4, hca4, hCa4⟩ := Kd.R_reads hra4
 rw [show ([8, 150, 1] : List Int).length = 3 from rfl] at hva4
 subst hva4
 clear hra3 hra4
 have hBa : Below w.heap.size w wa := hBa0.trans (hba.mono hBa0.size)
 clear hba
 have hBax := hBa.alloc hBa.size (.cells #[.int .i64 1, .int .i64 0, .int .u64 150, .slice Aa3 0 ca3, .slice Aa4 3 ca4] 33)
 have hxa : Rec5 (wa.alloc (.cells #[.int .i64 1, .int .i64 0, .int .u64 150, .slice Aa3 0 ca3, .slice Aa4 3 ca4] 33)) wa.heap.size 1 0 150 (.slice Aa3 0 ca3) (.slice Aa4 3 ca4) := World.alloc_heap_new wa _
 have hCa3 := Kd.C_below hCa3 (below_alloc (Below.refl _ _) (.cells #[.int .i64 1, .int .i64 0, .int .u64 150, .slice Aa3 0 ca3, .slice Aa4 3 ca4] 33))
 have hCa4 := Kd.C_below hCa4 (below_alloc (Below.refl _ _) (.cells #[.int .i64 1, .int .i64 0, .int .u64 150, .slice Aa3 0 ca3, .slice Aa4 3 ca4] 33))
 go_upto_region 4 with (fail)
 generalize wa.alloc (.cells #[.int .i64 1, .int .i64 0, .int .u64 150, .slice Aa3 0 ca3, .slice Aa4 3 ca4] 33) = wax at hBax  hxa hCa3 hCa4 ⊢
 generalize wa.heap.size = ga at hxa ⊢
 go_wp2_with fail
 refine (wire_Make.calls 40 2 2 0 _ 2 [116, 101] 2 2 0 [116, 101] [18, 2, 116, 101] 0 _ (C_new _ [116, 101] (by decide)) (Nat.le_refl _) m8).mono ?_
 rintro e wb ⟨vb3, vb4, rfl, hrb3, hrb4, hbb⟩
 obtain ⟨Ab3, cb3, hvb3, hcb3, hCb3⟩ := Kd.R_reads hrb3
 rw [show ([116, 101] : List Int).length = 2 from rfl] at hvb3
 subst hvb3
 obtain ⟨Ab4, cb4, hvb4, hcb4, hCb4⟩ := Kd.R_reads hrb4
 rw [show ([18, 2, 116, 101] : List Int).length = 4 from rfl] at hvb4
 subst hvb4
 clear hrb3 hrb4
 have hBb : Below w.heap.size w wb := (hBax.alloc hBax.size _).trans (hbb.mono (hBax.alloc hBax.size (.cells (nums .u8 [116, 101]).toArray 5)).size)
 have hxa := below_box hbb (hxa.alloc_ (.cells (nums .u8 [116, 101]).toArray 5))
 have hCa3 := Kd.C_below (Kd.C_below hCa3 (below_alloc (Below.refl _ _) (.cells (nums .u8 [116, 101]).toArray 5))) hbb
 have hCa4 := Kd.C_below (Kd.C_below hCa4 (below_alloc (Below.refl _ _) (.cells (nums .u8 [116, 101]).toArray 5))) hbb
 clear hbb
 have hBbx := hBb.alloc hBb.size (.cells #[.int .i64 2, .int .i64 2, .int .u64 0, .slice Ab3 2 cb3, .slice Ab4 4 cb4] 33)
 have hxb : Rec5 (wb.alloc (.cells #[.int .i64 2, .int .i64 2, .int .u64 0, .slice Ab3 2 cb3, .slice Ab4 4 cb4] 33)) wb.heap.size 2 2 0 (.slice Ab3 2 cb3) (.slice Ab4 4 cb4) := World.alloc_heap_new wb _
 have hxa := hxa.alloc_ (.cells #[.int .i64 2, .int .i64 2, .int .u64 0, .slice Ab3 2 cb3, .slice Ab4 4 cb4] 33)
 have hCa3 := Kd.C_below hCa3 (below_alloc (Below.refl _ _) (.cells #[.int .i64 2, .int .i64 2, .int .u64 0, .slice Ab3 2 cb3, .slice Ab4 4 cb4] 33))
 have hCa4 := Kd.C_below hCa4 (below_alloc (Below.refl _ _) (.cells #[.int .i64 2, .int .i64 2, .int .u64 0, .slice Ab3 2 cb3, .slice Ab4 4 cb4] 33))
 have hCb3 := Kd.C_below hCb3 (below_alloc (Below.refl _ _) (.cells #[.int .i64 2, .int .i64 2, .int .u64 0, .slice Ab3 2 cb3, .slice Ab4 4 cb4] 33))
 have hCb4 := Kd.C_below hCb4 (below_alloc (Below.refl _ _) (.cells #[.int .i64 2, .int .i64 2, .int .u64 0, .slice Ab3 2 cb3, .slice Ab4 4 cb4] 33))
 go_upto_region 5 with (fail)
 generalize wb.alloc (.cells #[.int .i64 2, .int .i64 2, .int .u64 0, .slice Ab3 2 cb3, .slice Ab4 4 cb4] 33) = wbx at hBbx hxa hxb hCa3 hCa4 hCb3 hCb4 ⊢
 generalize wb.heap.size = gb at hxb ⊢
 go_wp2_with fail
 refine (wire_Make.calls 40 3 5 1 none 0 [] 3 5 1 [] [29, 1, 0, 0, 0] 0 _ (Kd.C_nil _ _) (Nat.le_refl _) m9).mono ?_
 rintro e wc ⟨vc3, vc4, rfl, hrc3, hrc4, hbc⟩
 obtain ⟨Ac3, cc3, hvc3, hcc3, hCc3⟩ := Kd.R_reads hrc3
 rw [show ([] : List Int).length = 0 from rfl] at hvc3
 subst hvc3
 obtain ⟨Ac4, cc4, hvc4, hcc4, hCc4⟩ := Kd.R_reads hrc4
 rw [show ([29, 1, 0, 0, 0] : List Int).length = 5 from rfl] at hvc4
 subst hvc4
 clear hrc3 hrc4
 have hBc : Below w.heap.size w wc := hBbx.trans (hbc.mono hBbx.size)
 have hxa := below_box hbc hxa
 have hxb := below_box hbc hxb
 have hCa3 := Kd.C_below hCa3 hbc
 have hCa4 := Kd.C_below hCa4 hbc
 have hCb3 := Kd.C_below hCb3 hbc
 have hCb4 := Kd.C_below hCb4 hbc
 clear hbc
 have hBcx := hBc.alloc hBc.size (.cells #[.int .i64 3, .int .i64 5, .int .u64 1, .slice Ac3 0 cc3, .slice Ac4 5 cc4] 33)
 have hxc : Rec5 (wc.alloc (.cells #[.int .i64 3, .int .i64 5, .int .u64 1, .slice Ac3 0 cc3, .slice Ac4 5 cc4] 33)) wc.heap.size 3 5 1 (.slice Ac3 0 cc3) (.slice Ac4 5 cc4) := World.alloc_heap_new wc _
 have hxa := hxa.alloc_ (.cells #[.int .i64 3, .int .i64 5, .int .u64 1, .slice Ac3 0 cc3, .slice Ac4 5 cc4] 33)
 have hxb := hxb.alloc_ (.cells #[.int .i64 3, .int .i64 5, .int .u64 1, .slice Ac3 0 cc3, .slice Ac4 5 cc4] 33)
 have hCa3 := Kd.C_below hCa3 (below_alloc (Below.refl _ _) (.cells #[.int .i64 3, .int .i64 5, .int .u64 1, .slice Ac3 0 cc3, .slice Ac4 5 cc4] 33))
 have hCa4 := Kd.C_below hCa4 (below_alloc (Below.refl _ _) (.cells #[.int .i64 3, .int .i64 5, .int .u64 1, .slice Ac3 0 cc3, .slice Ac4 5 cc4] 33))
 have hCb3 := Kd.C_below hCb3 (below_alloc (Below.refl _ _) (.cells #[.int .i64 3, .int .i64 5, .int .u64 1, .slice Ac3 0 cc3, .slice Ac4 5 cc4] 33))
 have hCb4 := Kd.C_below hCb4 (below_alloc (Below.refl _ _) (.cells #[.int .i64 3, .int .i64 5, .int .u64 1, .slice Ac3 0 cc3, .slice Ac4 5 cc4] 33))
 have hCc3 := Kd.C_below hCc3 (below_alloc (Below.refl _ _) (.cells #[.int .i64 3, .int .i64 5, .int .u64 1, .slice Ac3 0 cc3, .slice Ac4 5 cc4] 33))
 have hCc4 := Kd.C_below hCc4 (below_alloc (Below.refl _ _) (.cells #[.int .i64 3, .int .i64 5, .int .u64 1, .slice Ac3 0 cc3, .slice Ac4 5 cc4] 33))
 go_upto_region 6 with (fail)
 generalize wc.alloc (.cells #[.int .i64 3, .int .i64 5, .int .u64 1, .slice Ac3 0 cc3, .slice Ac4 5 cc4] 33) = wcx at hBcx hxa hxb hxc hCa3 hCa4 hCb3 hCb4 hCc3 hCc4 ⊢
 generalize wc.heap.size = gc at hxc ⊢
 go_wp2_with fail
 refine (wire_Make.calls 40 4 3 0 none 0 [] 0 0 0 [] [] 10 _ (Kd.C_nil _ _) (Nat.le_refl _) m10).mono ?_
 rintro e wd ⟨vd3, vd4, rfl, hrd3, hrd4, hbd⟩
 obtain ⟨Ad3, cd3, hvd3, hcd3, hCd3⟩ := Kd.R_reads hrd3
 rw [show ([] : List Int).length = 0 from rfl] at hvd3
 subst hvd3
 obtain ⟨Ad4, cd4, hvd4, hcd4, hCd4⟩ := Kd.R_reads hrd4
 rw [show ([] : List Int).length = 0 from rfl] at hvd4
 subst hvd4
 clear hrd3 hrd4
 have hBd : Below w.heap.size w wd := hBcx.trans (hbd.mono hBcx.size)
 have hxa := below_box hbd hxa
 have hxb := below_box hbd hxb
 have hxc := below_box hbd hxc
 have hCa3 := Kd.C_below hCa3 hbd
 have hCa4 := Kd.C_below hCa4 hbd
 have hCb3 := Kd.C_below hCb3 hbd
 have hCb4 := Kd.C_below hCb4 hbd
 have hCc3 := Kd.C_below hCc3 hbd
 have hCc4 := Kd.C_below hCc4 hbd
 clear hbd
 have hBdx := hBd.alloc hBd.size (.cells #[.int .i64 0, .int .i64 0, .int .u64 0, .slice Ad3 0 cd3, .slice Ad4 0 cd4] 33)
 have hxd : Rec5 (wd.alloc (.cells #[.int .i64 0, .int .i64 0, .int .u64 0, .slice Ad3 0 cd3, .slice Ad4 0 cd4] 33)) wd.heap.size 0 0 0 (.slice Ad3 0 cd3) (.slice Ad4 0 cd4) := World.alloc_heap_new wd _
 have hxa := hxa.alloc_ (.cells #[.int .i64 0, .int .i64 0, .int .u64 0, .slice Ad3 0 cd3, .slice Ad4 0 cd4] 33)
 have hxb := hxb.alloc_ (.cells #[.int .i64 0, .int .i64 0, .int .u64 0, .slice Ad3 0 cd3, .slice Ad4 0 cd4] 33)
 have hxc := hxc.alloc_ (.cells #[.int .i64 0, .int .i64 0, .int .u64 0, .slice Ad3 0 cd3, .slice Ad4 0 cd4] 33)
 have hCa3 := Kd.C_below hCa3 (below_alloc (Below.refl _ _) (.cells #[.int .i64 0, .int .i64 0, .int .u64 0, .slice Ad3 0 cd3, .slice Ad4 0 cd4] 33))
 have hCa4 := Kd.C_below hCa4 (below_alloc (Below.refl _ _) (.cells #[.int .i64 0, .int .i64 0, .int .u64 0, .slice Ad3 0 cd3, .slice Ad4 0 cd4] 33))
 have hCb3 := Kd.C_below hCb3 (below_alloc (Below.refl _ _) (.cells #[.int .i64 0, .int .i64 0, .int .u64 0, .slice Ad3 0 cd3, .slice Ad4 0 cd4] 33))
 have hCb4 := Kd.C_below hCb4 (below_alloc (Below.refl _ _) (.cells #[.int .i64 0, .int .i64 0, .int .u64 0, .slice Ad3 0 cd3, .slice Ad4 0 cd4] 33))
 have hCc3 := Kd.C_below hCc3 (below_alloc (Below.refl _ _) (.cells #[.int .i64 0, .int .i64 0, .int .u64 0, .slice Ad3 0 cd3, .slice Ad4 0 cd4] 33))
 have hCc4 := Kd.C_below hCc4 (below_alloc (Below.refl _ _) (.cells #[.int .i64 0, .int .i64 0, .int .u64 0, .slice Ad3 0 cd3, .slice Ad4 0 cd4] 33))
 have hCd3 := Kd.C_below hCd3 (below_alloc (Below.refl _ _) (.cells #[.int .i64 0, .int .i64 0, .int .u64 0, .slice Ad3 0 cd3, .slice Ad4 0 cd4] 33))
 have hCd4 := Kd.C_below hCd4 (below_alloc (Below.refl _ _) (.cells #[.int .i64 0, .int .i64 0, .int .u64 0, .slice Ad3 0 cd3, .slice Ad4 0 cd4] 33))
 go_upto_region 7 with (fail)
 generalize wd.alloc (.cells #[.int .i64 0, .int .i64 0, .int .u64 0, .slice Ad3 0 cd3, .slice Ad4 0 cd4] 33) = wdx at hBdx hxa hxb hxc hxd hCa3 hCa4 hCb3 hCb4 hCc3 hCc4 hCd3 hCd4 ⊢
 generalize wd.heap.size = gd at hxd ⊢
 go_wp2_with fail
 refine (wire_Make.calls 40 0 0 0 none 0 [] 0 0 0 [] [] 9 _ (Kd.C_nil _ _) (Nat.le_refl _) m11).mono ?_
 rintro e wf ⟨vf3, vf4, rfl, hrf3, hrf4, hbf⟩
 obtain ⟨Af3, cf3, hvf3, hcf3, hCf3⟩ := Kd.R_reads hrf3
 rw [show ([] : List Int).length = 0 from rfl] at hvf3
 subst hvf3
 obtain ⟨Af4, cf4, hvf4, hcf4, hCf4⟩ := Kd.R_reads hrf4
 rw [show ([] : List Int).length = 0 from rfl] at hvf4
 subst hvf4
 clear hrf3 hrf4
 have hBf : Below w.heap.size w wf := hBdx.trans (hbf.mono hBdx.size)
 have hxa := below_box hbf hxa
 have hxb := below_box hbf hxb
 have hxc := below_box hbf hxc
 have hCa3 := Kd.C_below hCa3 hbf
 have hCa4 := Kd.C_below hCa4 hbf
 have hCb3 := Kd.C_below hCb3 hbf
 have hCb4 := Kd.C_below hCb4 hbf
 have hCc3 := Kd.C_below hCc3 hbf
 have hCc4 := Kd.C_below hCc4 hbf
 clear hbf
 have hBfx := hBf.alloc hBf.size (.cells #[.int .i64 0, .int .i64 0, .int .u64 0, .slice Af3 0 cf3, .slice Af4 0 cf4] 33)
 have hxf : Rec5 (wf.alloc (.cells #[.int .i64 0, .int .i64 0, .int .u64 0, .slice Af3 0 cf3, .slice Af4 0 cf4] 33)) wf.heap.size 0 0 0 (.slice Af3 0 cf3) (.slice Af4 0 cf4) := World.alloc_heap_new wf _
 have hxa := hxa.alloc_ (.cells #[.int .i64 0, .int .i64 0, .int .u64 0, .slice Af3 0 cf3, .slice Af4 0 cf4] 33)
 have hxb := hxb.alloc_ (.cells #[.int .i64 0, .int .i64 0, .int .u64 0, .slice Af3 0 cf3, .slice Af4 0 cf4] 33)
 have hxc := hxc.alloc_ (.cells #[.int .i64 0, .int .i64 0, .int .u64 0, .slice Af3 0 cf3, .slice Af4 0 cf4] 33)
 have hCa3 := Kd.C_below hCa3 (below_alloc (Below.refl _ _) (.cells #[.int .i64 0, .int .i64 0, .int .u64 0, .slice Af3 0 cf3, .slice Af4 0 cf4] 33))
 have hCa4 := Kd.C_below hCa4 (below_alloc (Below.refl _ _) (.cells #[.int .i64 0, .int .i64 0, .int .u64 0, .slice Af3 0 cf3, .slice Af4 0 cf4] 33))
 have hCb3 := Kd.C_below hCb3 (below_alloc (Below.refl _ _) (.cells #[.int .i64 0, .int .i64 0, .int .u64 0, .slice Af3 0 cf3, .slice Af4 0 cf4] 33))
 have hCb4 := Kd.C_below hCb4 (below_alloc (Below.refl _ _) (.cells #[.int .i64 0, .int .i64 0, .int .u64 0, .slice Af3 0 cf3, .slice Af4 0 cf4] 33))
 have hCc3 := Kd.C_below hCc3 (below_alloc (Below.refl _ _) (.cells #[.int .i64 0, .int .i64 0, .int .u64 0, .slice Af3 0 cf3, .slice Af4 0 cf4] 33))
 have hCc4 := Kd.C_below hCc4 (below_alloc (Below.refl _ _) (.cells #[.int .i64 0, .int .i64 0, .int .u64 0, .slice Af3 0 cf3, .slice Af4 0 cf4] 33))
 have hCf3 := Kd.C_below hCf3 (below_alloc (Below.refl _ _) (.cells #[.int .i64 0, .int .i64 0, .int .u64 0, .slice Af3 0 cf3, .slice Af4 0 cf4] 33))
 have hCf4 := Kd.C_below hCf4 (below_alloc (Below.refl _ _) (.cells #[.int .i64 0, .int .i64 0, .int .u64 0, .slice Af3 0 cf3, .slice Af4 0 cf4] 33))
 go_upto_region 8 with (fail)
 generalize wf.alloc (.cells #[.int .i64 0, .int .i64 0, .int .u64 0, .slice Af3 0 cf3, .slice Af4 0 cf4] 33) = wfx at hBfx hxa hxb hxc hxf hCa3 hCa4 hCb3 hCb4 hCc3 hCc4 hCf3 hCf4 ⊢
 generalize wf.heap.size = gf at hxf ⊢
 clear hBa0 hBa hBax hBb hBbx hBc hBcx hBd hBdx hxf hCf3 hCf4 hCd3 hCd4 hB3 hxd
 obtain ⟨xa0, xa1, xa2, xa3, xa4⟩ := hxa.cells
 obtain ⟨xb0, xb1, xb2, xb3, xb4⟩ := hxb.cells
 obtain ⟨xc0, xc1, xc2, xc3, xc4⟩ := hxc.cells
 go_wp2_with fail
 refine (cF.calls 40 1 0 150 Aa3 ca3 [] Aa4 ca4 [8, 150, 1] 0 _ 3 [8, 150, 1] true _ (Kd.C_below hCa3 (below_alloc (Below.refl _ _) _)) hca3 (Kd.C_below hCa4 (below_alloc (Below.refl _ _) _)) hca4 (C_new _ [8, 150, 1] (by decide)) (Nat.le_refl _) m12).mono ?_
 rintro e wg ⟨rfl, hbg⟩
 have hBg : Below w.heap.size w wg := (hBfx.alloc hBfx.size _).trans (hbg.mono (hBfx.alloc hBfx.size (.cells (nums .u8 [8, 150, 1]).toArray 5)).size)
 have hxa := below_box hbg (hxa.alloc_ (.cells (nums .u8 [8, 150, 1]).toArray 5))
 have hxb := below_box hbg (hxb.alloc_ (.cells (nums .u8 [8, 150, 1]).toArray 5))
 have hxc := below_box hbg (hxc.alloc_ (.cells (nums .u8 [8, 150, 1]).toArray 5))
 have hCa3 := Kd.C_below (Kd.C_below hCa3 (below_alloc (Below.refl _ _) (.cells (nums .u8 [8, 150, 1]).toArray 5))) hbg
 have hCa4 := Kd.C_below (Kd.C_below hCa4 (below_alloc (Below.refl _ _) (.cells (nums .u8 [8, 150, 1]).toArray 5))) hbg
 have hCb3 := Kd.C_below (Kd.C_below hCb3 (below_alloc (Below.refl _ _) (.cells (nums .u8 [8, 150, 1]).toArray 5))) hbg
 have hCb4 := Kd.C_below (Kd.C_below hCb4 (below_alloc (Below.refl _ _) (.cells (nums .u8 [8, 150, 1]).toArray 5))) hbg
 have hCc3 := Kd.C_below (Kd.C_below hCc3 (below_alloc (Below.refl _ _) (.cells (nums .u8 [8, 150, 1]).toArray 5))) hbg
 have hCc4 := Kd.C_below (Kd.C_below hCc4 (below_alloc (Below.refl _ _) (.cells (nums .u8 [8, 150, 1]).toArray 5))) hbg
 clear hbg
 clear xa0 xa1 xa2 xa3 xa4 xb0 xb1 xb2 xb3 xb4 xc0 xc1 xc2 xc3 xc4
 obtain ⟨xa0, xa1, xa2, xa3, xa4⟩ := hxa.cells
 obtain ⟨xb0, xb1, xb2, xb3, xb4⟩ := hxb.cells
 obtain ⟨xc0, xc1, xc2, xc3, xc4⟩ := hxc.cells
 go_wp2_with fail
 refine (cF.calls 40 2 2 0 Ab3 cb3 [116, 101] Ab4 cb4 [18, 2, 116, 101] 0 _ 4 [18, 2, 116, 101] true _ (Kd.C_below hCb3 (below_alloc (Below.refl _ _) _)) hcb3 (Kd.C_below hCb4 (below_alloc (Below.refl _ _) _)) hcb4 (C_new _ [18, 2, 116, 101] (by decide)) (Nat.le_refl _) m13).mono ?_
 rintro e wh ⟨rfl, hbh⟩
 have hBh : Below w.heap.size w wh := (hBg.alloc hBg.size _).trans (hbh.mono (hBg.alloc hBg.size (.cells (nums .u8 [18, 2, 116, 101]).toArray 5)).size)
 have hxa := below_box hbh (hxa.alloc_ (.cells (nums .u8 [18, 2, 116, 101]).toArray 5))
 have hxb := below_box hbh (hxb.alloc_ (.cells (nums .u8 [18, 2, 116, 101]).toArray 5))
 have hxc := below_box hbh (hxc.alloc_ (.cells (nums .u8 [18, 2, 116, 101]).toArray 5))
 have hCa3 := Kd.C_below (Kd.C_below hCa3 (below_alloc (Below.refl _ _) (.cells (nums .u8 [18, 2, 116, 101]).toArray 5))) hbh
 have hCa4 := Kd.C_below (Kd.C_below hCa4 (below_alloc (Below.refl _ _) (.cells (nums .u8 [18, 2, 116, 101]).toArray 5))) hbh
 have hCb3 := Kd.C_below (Kd.C_below hCb3 (below_alloc (Below.refl _ _) (.cells (nums .u8 [18, 2, 116, 101]).toArray 5))) hbh
 have hCb4 := Kd.C_below (Kd.C_below hCb4 (below_alloc (Below.refl _ _) (.cells (nums .u8 [18, 2, 116, 101]).toArray 5))) hbh
 have hCc3 := Kd.C_below (Kd.C_below hCc3 (below_alloc (Below.refl _ _) (.cells (nums .u8 [18, 2, 116, 101]).toArray 5))) hbh
 have hCc4 := Kd.C_below (Kd.C_below hCc4 (below_alloc (Below.refl _ _) (.cells (nums .u8 [18, 2, 116, 101]).toArray 5))) hbh
 clear hbh
 clear xa0 xa1 xa2 xa3 xa4 xb0 xb1 xb2 xb3 xb4 xc0 xc1 xc2 xc3 xc4
 obtain ⟨xa0, xa1, xa2, xa3, xa4⟩ := hxa.cells
 obtain ⟨xb0, xb1, xb2, xb3, xb4⟩ := hxb.cells
 obtain ⟨xc0, xc1, xc2, xc3, xc4⟩ := hxc.cells
 go_wp2_with fail
 refine (cF.calls 40 3 5 1 Ac3 cc3 [] Ac4 cc4 [29, 1, 0, 0, 0] 0 _ 5 [29, 1, 0, 0, 0] true _ (Kd.C_below hCc3 (below_alloc (Below.refl _ _) _)) hcc3 (Kd.C_below hCc4 (below_alloc (Below.refl _ _) _)) hcc4 (C_new _ [29, 1, 0, 0, 0] (by decide)) (Nat.le_refl _) m14).mono ?_
 rintro e wi ⟨rfl, hbi⟩
 have hBi : Below w.heap.size w wi := (hBh.alloc hBh.size _).trans (hbi.mono (hBh.alloc hBh.size (.cells (nums .u8 [29, 1, 0, 0, 0]).toArray 5)).size)
 have hxa := below_box hbi (hxa.alloc_ (.cells (nums .u8 [29, 1, 0, 0, 0]).toArray 5))
 have hxb := below_box hbi (hxb.alloc_ (.cells (nums .u8 [29, 1, 0, 0, 0]).toArray 5))
 have hxc := below_box hbi (hxc.alloc_ (.cells (nums .u8 [29, 1, 0, 0, 0]).toArray 5))
 have hCa3 := Kd.C_below (Kd.C_below hCa3 (below_alloc (Below.refl _ _) (.cells (nums .u8 [29, 1, 0, 0, 0]).toArray 5))) hbi
 have hCa4 := Kd.C_below (Kd.C_below hCa4 (below_alloc (Below.refl _ _) (.cells (nums .u8 [29, 1, 0, 0, 0]).toArray 5))) hbi
 have hCb3 := Kd.C_below (Kd.C_below hCb3 (below_alloc (Below.refl _ _) (.cells (nums .u8 [29, 1, 0, 0, 0]).toArray 5))) hbi
 have hCb4 := Kd.C_below (Kd.C_below hCb4 (below_alloc (Below.refl _ _) (.cells (nums .u8 [29, 1, 0, 0, 0]).toArray 5))) hbi
 have hCc3 := Kd.C_below (Kd.C_below hCc3 (below_alloc (Below.refl _ _) (.cells (nums .u8 [29, 1, 0, 0, 0]).toArray 5))) hbi
 have hCc4 := Kd.C_below (Kd.C_below hCc4 (below_alloc (Below.refl _ _) (.cells (nums .u8 [29, 1, 0, 0, 0]).toArray 5))) hbi
 clear hbi
 clear xa0 xa1 xa2 xa3 xa4 xb0 xb1 xb2 xb3 xb4 xc0 xc1 xc2 xc3 xc4
 obtain ⟨xa0, xa1, xa2, xa3, xa4⟩ := hxa.cells
 obtain ⟨xb0, xb1, xb2, xb3, xb4⟩ := hxb.cells
 obtain ⟨xc0, xc1, xc2, xc3, xc4⟩ := hxc.cells
 clear hxb hxc hCb3 hCb4 hCc3 hCc4 hBfx hBg hBh
 clear xa0 xa1 xa2 xa3 xa4 xb0 xb1 xb2 xb3 xb4 xc0 xc1 xc2 xc3 xc4
 go_wp2_with fail
 refine (aN.calls 40 _ _ 5 [8, 150, 1, 18, 0] [⟨1, 0, 150, [], [8, 150, 1]⟩, ⟨2, 2, 0, [], [18, 0]⟩] 0 _ (Kd.V_mk (Nat.le_refl _) (Kd.C_F (Kd.heap_int .u8) (C_new _ [8, 150, 1, 18, 0] (by decide)))) m15).mono ?_
 rintro e wj ⟨vj, rfl, hSj, hbj⟩
 have hBj : Below w.heap.size w wj := (hBi.alloc hBi.size _).trans (hbj.mono (hBi.alloc hBi.size (.cells (nums .u8 [8, 150, 1, 18, 0]).toArray 5)).size)
 have hxa := below_box hbj (hxa.alloc_ (.cells (nums .u8 [8, 150, 1, 18, 0]).toArray 5))
 have hCa3 := Kd.C_below (Kd.C_below hCa3 (below_alloc (Below.refl _ _) (.cells (nums .u8 [8, 150, 1, 18, 0]).toArray 5))) hbj
 have hCa4 := Kd.C_below (Kd.C_below hCa4 (below_alloc (Below.refl _ _) (.cells (nums .u8 [8, 150, 1, 18, 0]).toArray 5))) hbj
 obtain ⟨Al, cl, hvl, hcl, hCl⟩ := Kd.R_reads (Kd.S_R hSj)
 rw [show ([⟨1, 0, 150, [], [8, 150, 1]⟩, ⟨2, 2, 0, [], [18, 0]⟩] : List S33).length = 2 from rfl] at hvl
 subst hvl
 clear hbj hSj hBi
 go_wp2_with fail
 refine (aN.calls 40 _ _ 2 [8, 150] [] 3 _ (Kd.V_mk (Nat.le_refl _) (Kd.C_F (Kd.heap_int .u8) (C_new _ [8, 150] (by decide)))) m16).mono ?_
 rintro e wk ⟨vk, rfl, hSk, hbk⟩
 have hBk : Below w.heap.size w wk := (hBj.alloc hBj.size _).trans (hbk.mono (hBj.alloc hBj.size (.cells (nums .u8 [8, 150]).toArray 5)).size)
 have hxa := below_box hbk (hxa.alloc_ (.cells (nums .u8 [8, 150]).toArray 5))
 have hCa3 := Kd.C_below (Kd.C_below hCa3 (below_alloc (Below.refl _ _) (.cells (nums .u8 [8, 150]).toArray 5))) hbk
 have hCa4 := Kd.C_below (Kd.C_below hCa4 (below_alloc (Below.refl _ _) (.cells (nums .u8 [8, 150]).toArray 5))) hbk
 have hCl := Kd.C_below (Kd.C_below hCl (below_alloc (Below.refl _ _) (.cells (nums .u8 [8, 150]).toArray 5))) hbk
 clear hbk hSk hBj
 go_wp2_with fail
 refine (aN.calls 40 _ _ 1 [11] [] 10 _ (Kd.V_mk (Nat.le_refl _) (Kd.C_F (Kd.heap_int .u8) (C_new _ [11] (by decide)))) m17).mono ?_
 rintro e wm ⟨vm, rfl, hSm, hbm⟩
 have hBm : Below w.heap.size w wm := (hBk.alloc hBk.size _).trans (hbm.mono (hBk.alloc hBk.size (.cells (nums .u8 [11]).toArray 5)).size)
 have hxa := below_box hbm (hxa.alloc_ (.cells (nums .u8 [11]).toArray 5))
 have hCa3 := Kd.C_below (Kd.C_below hCa3 (below_alloc (Below.refl _ _) (.cells (nums .u8 [11]).toArray 5))) hbm
 have hCa4 := Kd.C_below (Kd.C_below hCa4 (below_alloc (Below.refl _ _) (.cells (nums .u8 [11]).toArray 5))) hbm
 have hCl := Kd.C_below (Kd.C_below hCl (below_alloc (Below.refl _ _) (.cells (nums .u8 [11]).toArray 5))) hbm
 clear hbm hSm hBk
 go_wp2_with fail
 refine (aN.calls 40 _ _ 2 [0, 1] [] 4 _ (Kd.V_mk (Nat.le_refl _) (Kd.C_F (Kd.heap_int .u8) (C_new _ [0, 1] (by decide)))) m18).mono ?_
 rintro e wn ⟨vn, rfl, hSn, hbn⟩
 have hBn : Below w.heap.size w wn := (hBm.alloc hBm.size _).trans (hbn.mono (hBm.alloc hBm.size (.cells (nums .u8 [0, 1]).toArray 5)).size)
 have hxa := below_box hbn (hxa.alloc_ (.cells (nums .u8 [0, 1]).toArray 5))
 have hCa3 := Kd.C_below (Kd.C_below hCa3 (below_alloc (Below.refl _ _) (.cells (nums .u8 [0, 1]).toArray 5))) hbn
 have hCa4 := Kd.C_below (Kd.C_below hCa4 (below_alloc (Below.refl _ _) (.cells (nums .u8 [0, 1]).toArray 5))) hbn
 have hCl := Kd.C_below (Kd.C_below hCl (below_alloc (Below.refl _ _) (.cells (nums .u8 [0, 1]).toArray 5))) hbn
 clear hbn hSn hBm
 obtain ⟨xa0, xa1, xa2, xa3, xa4⟩ := hxa.cells
 obtain ⟨ad, A03, c03, A04, c04, ead, y00, y01, y02, y03, y04, hl3, hCl3, hl4, hCl4⟩ := at_T33 hCl 0 (by decide) (by decide)
 subst ead
 obtain ⟨ad', A13, c13, A14, c14, ead, y10, y11, y12, y13, y14, -⟩ := at_T33 hCl 1 (by decide) (by decide)
 injection ead with ead
 subst ead
 simp only [rd_T33, List.getD_cons_zero, List.getD_cons_succ, Nat.zero_mul, Nat.one_mul, Int.reduceToNat] at y00 y01 y02 y03 y04 y10 y13 hl3 hCl3 hl4 hCl4
 clear y11 y12 y14 hCl
 rw [show ad.add 0 = ad from rfl] at y00 y01 y02 y03 y04
 rw [show ad.add 5 = ⟨ad.block, ad.off + 5, none⟩ from rfl] at y10 y13
 simp only [Nat.add_assoc, Nat.reduceAdd, List.length_nil, List.length_cons] at y00 y01 y02 y03 y04 y10 y13
 go_wp2
 have HSAME : Hid (Calls Try.prog 35 #[.agg #[.int .i64 1, .int .i64 0, .int .u64 150, .slice A03 0 c03, .slice A04 3 c04], .agg #[.int .i64 1, .int .i64 0, .int .u64 150, .slice Aa3 0 ca3, .slice Aa4 3 ca4]] wn.drew fun e w' => e = .returned (.bool true) ∧ Below wn.drew.heap.size wn.drew w') :=
  wire_Same.calls 40 1 0 150 A03 c03 [] A04 c04 [8, 150, 1] 1 0 150 Aa3 ca3 [] Aa4 ca4 [8, 150, 1] true wn.drew hCl3 hl3 hCl4 hl4 hCa3 hca3 hCa4 hca4 m19
 have hBq := below_drew hBn
 refine start_ (n := 42) (S := fun w' => w'.cell? ⟨ga, 0, none⟩ = some (.int .i64 1) ∧ w'.cell? ⟨ga, 1, none⟩ = some (.int .i64 0) ∧ w'.cell? ⟨ga, 2, none⟩ = some (.int .u64 150) ∧ w'.cell? ⟨ga, 3, none⟩ = some (.slice Aa3 0 ca3) ∧ w'.cell? ⟨ga, 4, none⟩ = some (.slice Aa4 3 ca4) ∧ w'.cell? ad = some (.int .i64 1) ∧ w'.cell? ⟨ad.block, ad.off + 1, none⟩ = some (.int .i64 0) ∧ w'.cell? ⟨ad.block, ad.off + 2, none⟩ = some (.int .u64 150) ∧ w'.cell? ⟨ad.block, ad.off + 3, none⟩ = some (.slice A03 0 c03) ∧ w'.cell? ⟨ad.block, ad.off + 4, none⟩ = some (.slice A04 3 c04) ∧ w'.cell? ⟨ad.block, ad.off + 5, none⟩ = some (.int .i64 2) ∧ w'.cell? ⟨ad.block, ad.off + 8, none⟩ = some (.slice A13 0 c13) ∧ w'.cell? ⟨ad.block, ad.off + 5 + 3, none⟩ = some (.slice A13 0 c13)) (ds := []) (tf 0 42) p16z rfl rfl ⟨xa0, xa1, xa2, xa3, xa4, y00, y01, y02, y03, y04, y10, y13, y13⟩ (fun hHeld => ?_); refine with_tabW ac.tab14 ac.bits14 (fun HT_ HW_ => ?_)
 clear xa0 xa1 xa2 xa3 xa4 y00 y01 y02 y03 y04 y10 y13
 generalize wn.drew = wq at hBq HSAME hHeld ⊢
 refine pure_ (i := 0) (N := some 107) (v := ?_) (a' := ?_) (tf 1 41) rfl rfl (any_of HT_.out p16z) (fun _ _ _ h => h) (Or.inl ⟨by rfl, ?_⟩) ?_ ?_
 rotate_left
 ·intro w'
  go_simp
  with_reducible rfl
 rotate_left
 ·exact p1z
 refine pure_ (i := 1) (N := some 108) (v := ?_) (a' := ?_) (tf 2 40) rfl rfl (any_of HT_.out p16z) (fun _ _ _ h => h) (Or.inl ⟨by rfl, ?_⟩) ?_ ?_
 rotate_left
 ·intro w'
  go_simp
  with_reducible rfl
 rotate_left
 ·exact p1z
 refine pure_ (i := 2) (N := some 109) (v := ?_) (a' := ?_) (tf 3 39) rfl rfl (any_of HT_.out p16z) (fun _ _ _ h => h) (Or.inl ⟨by rfl, ?_⟩) ?_ ?_
 rotate_left
 ·intro w'
  go_simp
  with_reducible rfl
 rotate_left
 ·exact p1z
 refine pure_ (i := 3) (N := some 110) (v := ?_) (a' := ?_) (tf 4 38) rfl rfl (any_of HT_.out p16z) (fun _ _ _ h => h) (Or.inl ⟨by rfl, ?_⟩) ?_ ?_
 rotate_left
 ·intro w'
  go_simp
  with_reducible rfl
 rotate_left
 ·exact p1z
 refine pure_ (i := 4) (N := some 111) (v := ?_) (a' := ?_) (tf 5 37) rfl rfl (any_of HT_.out p16z) (fun _ _ _ h => h) (Or.inl ⟨by rfl, ?_⟩) ?_ ?_
 rotate_left
 ·intro w'
  go_simp
  with_reducible rfl
 rotate_left
 ·exact p1z
 refine pure_ (i := 5) (N := some 112) (v := ?_) (a' := ?_) (tf 6 36) rfl rfl (any_of HT_.out p16z) (fun _ _ _ h => h) (Or.inl ⟨by rfl, ?_⟩) ?_ ?_
 rotate_left
 ·intro w'
  go_simp
  with_reducible rfl
 rotate_left
 ·exact p1z
 refine take_ (i := 6) (N := some 113) (v := ?_) (a' := ?_) (tf 7 35) rfl rfl (take_ofW HT_.out HW_.out p16z) (fun _ _ _ h => h) (Or.inl ⟨by rfl, ?_⟩) hHeld ?_ ?_
 rotate_left
 ·rintro w' ⟨s0, s1, s2, s3, s4, s5, s6, s7, s8, s9, s10, s11, s12⟩
  go_simp
  with_reducible rfl
 rotate_left
 ·exact p1z
 refine take_ (i := 7) (N := some 114) (v := ?_) (a' := ?_) (tf 8 34) rfl rfl (take_ofW HT_.out HW_.out p16z) (fun _ _ _ h => h) (Or.inl ⟨by rfl, ?_⟩) hHeld ?_ ?_
 rotate_left
 ·rintro w' ⟨s0, s1, s2, s3, s4, s5, s6, s7, s8, s9, s10, s11, s12⟩
  go_simp
  with_reducible rfl
 rotate_left
 ·exact p1z
 refine one_ (i := 8) (N := some 115) (tf 9 33) rfl rfl (one_of HT_.out p16z) (by decide) (fun K hK => ?_)
 refine goes_ Try.func35 p16z rfl #[.agg #[.int .i64 1, .int .i64 0, .int .u64 150, .slice A03 0 c03, .slice A04 3 c04], .agg #[.int .i64 1, .int .i64 0, .int .u64 150, .slice Aa3 0 ca3, .slice Aa4 3 ca4]] (by rfl) rfl rfl (by (try simp only [List.map_toArray, List.map_cons, List.map_nil]); first | done | rfl) ?_
 refine HSAME.out.mono ?_
 rintro e wz ⟨rfl, hbz⟩
 obtain ⟨s0, s1, s2, s3, s4, s5, s6, s7, s8, s9, s10, s11, s12⟩ := hHeld
 have hBz := hBq.trans (hbz.mono hBq.size)
 refine ⟨_, rfl, ?_⟩
 refine hK.out _ _ ⟨pw_cell_below hbz s0, pw_cell_below hbz s1, pw_cell_below hbz s2, pw_cell_below hbz s3, pw_cell_below hbz s4, pw_cell_below hbz s5, pw_cell_below hbz s6, pw_cell_below hbz s7, pw_cell_below hbz s8, pw_cell_below hbz s9, pw_cell_below hbz s10, pw_cell_below hbz s11, pw_cell_below hbz s12⟩ (fun hHeld => ?_)
 clear hK K hbz hBq HSAME s0 s1 s2 s3 s4 s5 s6 s7 s8 s9 s10 s11 s12
 refine norm_ (a' := ?_) ?_ ?_
 rotate_left
 ·show Act.put _ (some 115) _ = _
  simp only [Act.put, List.setIfInBounds_toArray, List.set_cons_zero, List.set_cons_succ, i64_w, i32_w]
  rfl
 refine pure_ (i := 9) (N := some 116) (v := ?_) (a' := ?_) (tf 10 32) rfl rfl (any_of HT_.out p16z) (fun _ _ _ h => h) (Or.inl ⟨by rfl, ?_⟩) ?_ ?_
 rotate_left
 ·intro w'
  go_simp
  with_reducible rfl
 rotate_left
 ·exact p1z
 refine pure_ (i := 10) (N := some 117) (v := ?_) (a' := ?_) (tf 11 31) rfl rfl (any_of HT_.out p16z) (fun _ _ _ h => h) (Or.inl ⟨by rfl, ?_⟩) ?_ ?_
 rotate_left
 ·intro w'
  go_simp
  with_reducible rfl
 rotate_left
 ·exact p1z
 refine pure_ (i := 11) (N := some 118) (v := ?_) (a' := ?_) (tf 12 30) rfl rfl (any_of HT_.out p16z) (fun _ _ _ h => h) (Or.inl ⟨by rfl, ?_⟩) ?_ ?_
 rotate_left
 ·intro w'
  go_simp
  with_reducible rfl
 rotate_left
 ·exact p1z
 refine pure_ (i := 12) (N := some 119) (v := ?_) (a' := ?_) (tf 13 29) rfl rfl (any_of HT_.out p16z) (fun _ _ _ h => h) (Or.inl ⟨by rfl, ?_⟩) ?_ ?_
 rotate_left
 ·intro w'
  go_simp
  with_reducible rfl
 rotate_left
 ·exact p1z
 refine pure_ (i := 13) (N := some 120) (v := ?_) (a' := ?_) (tf 14 28) rfl rfl (any_of HT_.out p16z) (fun _ _ _ h => h) (Or.inl ⟨by rfl, ?_⟩) ?_ ?_
 rotate_left
 ·intro w'
  go_simp
  with_reducible rfl
 rotate_left
 ·exact p1z
 refine take_ (i := 14) (N := some 121) (v := ?_) (a' := ?_) (tf 15 27) rfl rfl (take_ofW HT_.out HW_.out p16z) (fun _ _ _ h => h) (Or.inl ⟨by rfl, ?_⟩) hHeld ?_ ?_
 rotate_left
 ·rintro w' ⟨s0, s1, s2, s3, s4, s5, s6, s7, s8, s9, s10, s11, s12⟩
  go_simp
  with_reducible rfl
 rotate_left
 ·exact p1z
 refine pure_ (i := 15) (N := some 122) (v := ?_) (a' := ?_) (tf 16 26) rfl rfl (any_of HT_.out p16z) (fun _ _ _ h => h) (Or.inl ⟨by rfl, ?_⟩) ?_ ?_
 rotate_left
 ·intro w'
  go_simp
  with_reducible rfl
 rotate_left
 ·exact p1z
 refine pure_ (i := 16) (N := some 123) (v := ?_) (a' := ?_) (tf 17 25) rfl rfl (any_of HT_.out p16z) (fun _ _ _ h => h) (Or.inl ⟨by rfl, ?_⟩) ?_ ?_
 rotate_left
 ·intro w'
  go_simp
  with_reducible rfl
 rotate_left
 ·exact p1z
 refine pure_ (i := 17) (N := some 124) (v := ?_) (a' := ?_) (tf 18 24) rfl rfl (any_of HT_.out p16z) (fun _ _ _ h => h) (Or.inl ⟨by rfl, ?_⟩) ?_ ?_
 rotate_left
 ·intro w'
  go_simp
  with_reducible rfl
 rotate_left
 ·exact p1z
 refine pure_ (i := 18) (N := some 125) (v := ?_) (a' := ?_) (tf 19 23) rfl rfl (any_of HT_.out p16z) (fun _ _ _ h => h) (Or.inl ⟨by rfl, ?_⟩) ?_ ?_
 rotate_left
 ·intro w'
  go_simp
  with_reducible rfl
 rotate_left
 ·exact p1z
 refine pure_ (i := 19) (N := some 126) (v := ?_) (a' := ?_) (tf 20 22) rfl rfl (any_of HT_.out p16z) (fun _ _ _ h => h) (Or.inl ⟨by rfl, ?_⟩) ?_ ?_
 rotate_left
 ·intro w'
  go_simp
  with_reducible rfl
 rotate_left
 ·exact p1z
 refine pure_ (i := 20) (N := some 127) (v := ?_) (a' := ?_) (tf 21 21) rfl rfl (any_of HT_.out p16z) (fun _ _ _ h => h) (Or.inl ⟨by rfl, ?_⟩) ?_ ?_
 rotate_left
 ·intro w'
  go_simp
  with_reducible rfl
 rotate_left
 ·exact p1z
 refine take_ (i := 21) (N := some 128) (v := ?_) (a' := ?_) (tf 22 20) rfl rfl (take_ofW HT_.out HW_.out p16z) (fun _ _ _ h => h) (Or.inl ⟨by rfl, ?_⟩) hHeld ?_ ?_
 rotate_left
 ·rintro w' ⟨s0, s1, s2, s3, s4, s5, s6, s7, s8, s9, s10, s11, s12⟩
  go_simp
  with_reducible rfl
 rotate_left
 ·exact p1z
 refine pure_ (i := 22) (N := some 129) (v := ?_) (a' := ?_) (tf 23 19) rfl rfl (any_of HT_.out p16z) (fun _ _ _ h => h) (Or.inl ⟨by rfl, ?_⟩) ?_ ?_
 rotate_left
 ·intro w'
  go_simp
  with_reducible rfl
 rotate_left
 ·exact p1z
 refine pure_ (i := 23) (N := some 130) (v := ?_) (a' := ?_) (tf 24 18) rfl rfl (any_of HT_.out p16z) (fun _ _ _ h => h) (Or.inl ⟨by rfl, ?_⟩) ?_ ?_
 rotate_left
 ·intro w'
  go_simp
  with_reducible rfl
 rotate_left
 ·exact p1z
 refine pure_ (i := 24) (N := some 131) (v := ?_) (a' := ?_) (tf 25 17) rfl rfl (any_of HT_.out p16z) (fun _ _ _ h => h) (Or.inl ⟨by rfl, ?_⟩) ?_ ?_
 rotate_left
 ·intro w'
  go_simp
  with_reducible rfl
 rotate_left
 ·exact p1z
 refine pure_ (i := 25) (N := some 132) (v := ?_) (a' := ?_) (tf 26 16) rfl rfl (any_of HT_.out p16z) (fun _ _ _ h => h) (Or.inl ⟨by rfl, ?_⟩) ?_ ?_
 rotate_left
 ·intro w'
  go_simp
  with_reducible rfl
 rotate_left
 ·exact p1z
 refine pure_ (i := 26) (N := some 133) (v := ?_) (a' := ?_) (tf 27 15) rfl rfl (any_of HT_.out p16z) (fun _ _ _ h => h) (Or.inl ⟨by rfl, ?_⟩) ?_ ?_
 rotate_left
 ·intro w'
  go_simp
  with_reducible rfl
 rotate_left
 ·exact p1z
 refine pure_ (i := 27) (N := some 134) (v := ?_) (a' := ?_) (tf 28 14) rfl rfl (any_of HT_.out p16z) (fun _ _ _ h => h) (Or.inl ⟨by rfl, ?_⟩) ?_ ?_
 rotate_left
 ·intro w'
  go_simp
  with_reducible rfl
 rotate_left
 ·exact p1z
 refine pure_ (i := 28) (N := some 135) (v := ?_) (a' := ?_) (tf 29 13) rfl rfl (any_of HT_.out p16z) (fun _ _ _ h => h) (Or.inl ⟨by rfl, ?_⟩) ?_ ?_
 rotate_left
 ·intro w'
  go_simp
  with_reducible rfl
 rotate_left
 ·exact p1z
 refine pure_ (i := 29) (N := some 136) (v := ?_) (a' := ?_) (tf 30 12) rfl rfl (any_of HT_.out p16z) (fun _ _ _ h => h) (Or.inl ⟨by rfl, ?_⟩) ?_ ?_
 rotate_left
 ·intro w'
  go_simp
  with_reducible rfl
 rotate_left
 ·exact p1z
 refine pure_ (i := 30) (N := some 137) (v := ?_) (a' := ?_) (tf 31 11) rfl rfl (any_of HT_.out p16z) (fun _ _ _ h => h) (Or.inl ⟨by rfl, ?_⟩) ?_ ?_
 rotate_left
 ·intro w'
  go_simp
  with_reducible rfl
 rotate_left
 ·exact p1z
 refine pure_ (i := 31) (N := some 138) (v := ?_) (a' := ?_) (tf 32 10) rfl rfl (any_of HT_.out p16z) (fun _ _ _ h => h) (Or.inl ⟨by rfl, ?_⟩) ?_ ?_
 rotate_left
 ·intro w'
  go_simp
  with_reducible rfl
 rotate_left
 ·exact p1z
 refine pure_ (i := 32) (N := some 139) (v := ?_) (a' := ?_) (tf 33 9) rfl rfl (any_of HT_.out p16z) (fun _ _ _ h => h) (Or.inl ⟨by rfl, ?_⟩) ?_ ?_
 rotate_left
 ·intro w'
  go_simp
  with_reducible rfl
 rotate_left
 ·exact p1z
 refine pure_ (i := 33) (N := some 140) (v := ?_) (a' := ?_) (tf 34 8) rfl rfl (any_of HT_.out p16z) (fun _ _ _ h => h) (Or.inl ⟨by rfl, ?_⟩) ?_ ?_
 rotate_left
 ·intro w'
  go_simp
  with_reducible rfl
 rotate_left
 ·exact p1z
 refine pure_ (i := 34) (N := some 141) (v := ?_) (a' := ?_) (tf 35 7) rfl rfl (any_of HT_.out p16z) (fun _ _ _ h => h) (Or.inl ⟨by rfl, ?_⟩) ?_ ?_
 rotate_left
 ·intro w'
  go_simp
  with_reducible rfl
 rotate_left
 ·exact p1z
 refine pure_ (i := 35) (N := some 142) (v := ?_) (a' := ?_) (tf 36 6) rfl rfl (any_of HT_.out p16z) (fun _ _ _ h => h) (Or.inl ⟨by rfl, ?_⟩) ?_ ?_
 rotate_left
 ·intro w'
  go_simp
  with_reducible rfl
 rotate_left
 ·exact p1z
 refine pure_ (i := 36) (N := some 143) (v := ?_) (a' := ?_) (tf 37 5) rfl rfl (any_of HT_.out p16z) (fun _ _ _ h => h) (Or.inl ⟨by rfl, ?_⟩) ?_ ?_
 rotate_left
 ·intro w'
  go_simp
  with_reducible rfl
 rotate_left
 ·exact p1z
 refine pure_ (i := 37) (N := some 144) (v := ?_) (a' := ?_) (tf 38 4) rfl rfl (any_of HT_.out p16z) (fun _ _ _ h => h) (Or.inl ⟨by rfl, ?_⟩) ?_ ?_
 rotate_left
 ·intro w'
  go_simp
  with_reducible rfl
 rotate_left
 ·exact p1z
 refine pure_ (i := 38) (N := some 145) (v := ?_) (a' := ?_) (tf 39 3) rfl rfl (any_of HT_.out p16z) (fun _ _ _ h => h) (Or.inl ⟨by rfl, ?_⟩) ?_ ?_
 rotate_left
 ·intro w'
  go_simp
  with_reducible rfl
 rotate_left
 ·exact p1z
 refine pure_ (i := 39) (N := some 146) (v := ?_) (a' := ?_) (tf 40 2) rfl rfl (any_of HT_.out p16z) (fun _ _ _ h => h) (Or.inl ⟨by rfl, ?_⟩) ?_ ?_
 rotate_left
 ·intro w'
  go_simp
  with_reducible rfl
 rotate_left
 ·exact p1z
 refine pure_ (i := 40) (N := some 147) (v := ?_) (a' := ?_) (tf 41 1) rfl rfl (any_of HT_.out p16z) (fun _ _ _ h => h) (Or.inl ⟨by rfl, ?_⟩) ?_ ?_
 rotate_left
 ·intro w'
  go_simp
  with_reducible rfl
 rotate_left
 ·exact p1z
 refine pure_ (i := 41) (N := some 0) (v := ?_) (a' := ?_) (tf 42 0) rfl rfl (any_of HT_.out p16z) (fun _ _ _ h => h) (Or.inl ⟨by rfl, ?_⟩) ?_ ?_
 rotate_left
 ·intro w'
  go_simp
  with_reducible rfl
 rotate_left
 ·exact p1z
 refine done_ (done_of HT_.out p16z) ?_
 go_wp2
 go_ret
 exact ⟨rfl, hBz⟩

theorem ac.calls (r : Bool) (w : World) (h : ac.f = some r) : Calls Try.prog 22 #[] w fun e w' => e = .returned (.bool r) ∧ Below w.heap.size w w' := by
  obtain rfl := Option.some.inj h
  exact kN w
end Go.Proofs.Ytbclejgljegfmaa.Hand
