-- Written by this repo's program wip/tools/pr.py (over the kit's print) out of the translation. Not trusted: Lean checks it.
import Derived.Test.YtbclejgljegfmaaPAllx0
import Derived.Test.YtbclejgljegfmaaGA
import Derived.Test.YtbclejgljegfmaaGE
import Derived.Test.YtbclejgljegfmaaGF
import Derived.Test.YtbclejgljegfmaaGG
import Derived.Test.YtbclejgljegfmaaHandNext
import Derived.Test.YtbclejgljegfmaaHandWorks
namespace Go.Proofs.Ytbclejgljegfmaa.PAll
open Go.Proofs.Ytbclejgljegfmaa.Hand
open Go.RowKit Go.Proofs.YtbclejgljegfmaaW.PrintWords Go.Proofs.YtbclejgljegfmaaW.PrintLast Go.Proofs.YtbclejgljegfmaaW.PrintMore
attribute [local go_sem] max2_int min2_int max_two min_two max_three min_three max_four min_four   -- for this text's walks alone
set_option linter.unusedVariables false
set_option linter.unusedSimpArgs false

/-! ### signetrylaw01_WireReads: function 4 -/
mutual
def signetrylaw01_WireReads.j0 : Nat → List Int → List (S33) → List (S33) → Bool → Int → Int → Int → List Int → List Int → Int → Int → Int → List Int → List Int → Option (Bool)
  | 0, _, _, _, _, _, _, _, _, _, _, _, _, _, _ => none
  | k + 1, x3, x10, x12, x65, x300000, x300001, x300002, x300003, x300004, x312000, x312001, x312002, x312003, x312004 => if x65 = true then (none) else (signetrylaw01_WireReads.l0 k x3 x10 x12 0 x300000 x300001 x300002 x300003 x300004 x312000 x312001 x312002 x312003 x312004)
def signetrylaw01_WireReads.l0 : Nat → List Int → List (S33) → List (S33) → Int → Int → Int → Int → List Int → List Int → Int → Int → Int → List Int → List Int → Option (Bool)
  | 0, _, _, _, _, _, _, _, _, _, _, _, _, _, _ => none
  | k + 1, x3, x10, x12, x14, x300000, x300001, x300002, x300003, x300004, x312000, x312001, x312002, x312003, x312004 => if x14 < (x3.length : Int) then (if 0 ≤ x14 then (signetrylaw01_WireReads.l0 k (x3.set (x14 : Int).toNat (Go.bits .xor .u8 (rd x3 x14) 85)) x10 x12 (wrap64 (x14 + 1)) x300000 x300001 x300002 x300003 x300004 x312000 x312001 x312002 x312003 x312004) else (none)) else ((signetryref01_Same.f x300000 x300001 x300002 x300003 x300004 x312000 x312001 x312002 x312003 x312004).bind fun t324 => (if t324 = true then ((signetrylaw01_same.f k x10 x12).bind fun t325 => (if t325 = true then ((signetrylaw01_works.f).bind fun t326 => (some t326)) else (none))) else (none)))
end
def signetrylaw01_WireReads.f (k : Nat) (l0 : List Int) : Option (Bool) := (signetrylaw01_cut.f l0).bind fun t282 => ((signetryref00_CopyBytes.f t282).bind fun t285 => ((wire_Next.f t285).bind fun bt288 => ((signetryref01_Next.f k t282).bind fun bt300 => ((wire_Split.f k t285).bind fun bt312 => ((signetryref01_Split.f k t282).bind fun bt316 => ((signetryref01_Same.f bt288.1 bt288.2.1 bt288.2.2.1 bt288.2.2.2.1 bt288.2.2.2.2.1 bt300.1 bt300.2.1 bt300.2.2.1 bt300.2.2.2.1 bt300.2.2.2.2.1).bind fun t320 => (if t320 = true then (if bt288.2.2.2.2.2.1 = bt300.2.2.2.2.2.1 then (if bt288.2.2.2.2.2.2 = bt300.2.2.2.2.2.2 then ((signetrylaw01_same.f k bt312.1 bt316.1).bind fun t321 => (if t321 = true then (signetrylaw01_WireReads.j0 k t285 bt312.1 bt316.1 (bt312.2 != bt316.2) bt288.1 bt288.2.1 bt288.2.2.1 bt288.2.2.2.1 bt288.2.2.2.2.1 bt300.1 bt300.2.1 bt300.2.2.1 bt300.2.2.2.1 bt300.2.2.2.2.1) else (signetrylaw01_WireReads.j0 k t285 bt312.1 bt316.1 true bt288.1 bt288.2.1 bt288.2.2.1 bt288.2.2.2.1 bt288.2.2.2.2.1 bt300.1 bt300.2.1 bt300.2.2.1 bt300.2.2.2.1 bt300.2.2.2.2.1))) else (signetrylaw01_WireReads.j0 k t285 bt312.1 bt316.1 true bt288.1 bt288.2.1 bt288.2.2.1 bt288.2.2.2.1 bt288.2.2.2.2.1 bt300.1 bt300.2.1 bt300.2.2.1 bt300.2.2.2.1 bt300.2.2.2.2.1)) else (signetrylaw01_WireReads.j0 k t285 bt312.1 bt316.1 true bt288.1 bt288.2.1 bt288.2.2.1 bt288.2.2.2.1 bt288.2.2.2.2.1 bt300.1 bt300.2.1 bt300.2.2.1 bt300.2.2.2.1 bt300.2.2.2.2.1)) else (signetrylaw01_WireReads.j0 k t285 bt312.1 bt316.1 true bt288.1 bt288.2.1 bt288.2.2.1 bt288.2.2.2.1 bt288.2.2.2.2.1 bt300.1 bt300.2.1 bt300.2.2.1 bt300.2.2.2.1 bt300.2.2.2.2.1))))))))
theorem signetrylaw01_WireReads.mono_l : ∀ k, (∀ y0 y1 y2 y3 y4 y5 y6 y7 y8 y9 y10 y11 y12 y13, LeO (signetrylaw01_WireReads.j0 k y0 y1 y2 y3 y4 y5 y6 y7 y8 y9 y10 y11 y12 y13) (signetrylaw01_WireReads.j0 (k + 1) y0 y1 y2 y3 y4 y5 y6 y7 y8 y9 y10 y11 y12 y13)) ∧ (∀ y0 y1 y2 y3 y4 y5 y6 y7 y8 y9 y10 y11 y12 y13, LeO (signetrylaw01_WireReads.l0 k y0 y1 y2 y3 y4 y5 y6 y7 y8 y9 y10 y11 y12 y13) (signetrylaw01_WireReads.l0 (k + 1) y0 y1 y2 y3 y4 y5 y6 y7 y8 y9 y10 y11 y12 y13))
  | 0 => ⟨fun _ _ _ _ _ _ _ _ _ _ _ _ _ _ r h => by simp [signetrylaw01_WireReads.j0] at h, fun _ _ _ _ _ _ _ _ _ _ _ _ _ _ r h => by simp [signetrylaw01_WireReads.l0] at h⟩
  | k + 1 => by
    obtain ⟨ih0, ih1⟩ := signetrylaw01_WireReads.mono_l k
    refine ⟨?_, ?_⟩
    · intro y0 y1 y2 y3 y4 y5 y6 y7 y8 y9 y10 y11 y12 y13
      unfold signetrylaw01_WireReads.j0
      repeat' first
      | (with_reducible exact ih0 _ _ _ _ _ _ _ _ _ _ _ _ _ _)
      | (with_reducible exact ih1 _ _ _ _ _ _ _ _ _ _ _ _ _ _)
      | (with_reducible exact signetrylaw01_same.mono _ _ _)
      | (with_reducible exact signetryref01_Next.mono _ _)
      | (with_reducible exact signetryref01_Split.mono _ _)
      | (with_reducible exact wire_Split.mono _ _)
      | (with_reducible exact LeO.refl _)
      | (with_reducible exact LeO.none _)
      | (with_reducible refine LeO.ite ?_ ?_)
      | (with_reducible refine LeO.bind ?_ (fun _ => ?_))
      | exact ih0 _ _ _ _ _ _ _ _ _ _ _ _ _ _
      | exact ih1 _ _ _ _ _ _ _ _ _ _ _ _ _ _
      | exact signetrylaw01_same.mono _ _ _
      | exact signetryref01_Next.mono _ _
      | exact signetryref01_Split.mono _ _
      | exact wire_Split.mono _ _
      | exact LeO.none _
      | refine LeO.ite ?_ ?_
      | refine LeO.bind ?_ (fun _ => ?_)
    · intro y0 y1 y2 y3 y4 y5 y6 y7 y8 y9 y10 y11 y12 y13
      unfold signetrylaw01_WireReads.l0
      repeat' first
      | (with_reducible exact ih0 _ _ _ _ _ _ _ _ _ _ _ _ _ _)
      | (with_reducible exact ih1 _ _ _ _ _ _ _ _ _ _ _ _ _ _)
      | (with_reducible exact signetrylaw01_same.mono _ _ _)
      | (with_reducible exact signetryref01_Next.mono _ _)
      | (with_reducible exact signetryref01_Split.mono _ _)
      | (with_reducible exact wire_Split.mono _ _)
      | (with_reducible exact LeO.refl _)
      | (with_reducible exact LeO.none _)
      | (with_reducible refine LeO.ite ?_ ?_)
      | (with_reducible refine LeO.bind ?_ (fun _ => ?_))
      | exact ih0 _ _ _ _ _ _ _ _ _ _ _ _ _ _
      | exact ih1 _ _ _ _ _ _ _ _ _ _ _ _ _ _
      | exact signetrylaw01_same.mono _ _ _
      | exact signetryref01_Next.mono _ _
      | exact signetryref01_Split.mono _ _
      | exact wire_Split.mono _ _
      | exact LeO.none _
      | refine LeO.ite ?_ ?_
      | refine LeO.bind ?_ (fun _ => ?_)
theorem signetrylaw01_WireReads.mono : ∀ a0 k, LeO (signetrylaw01_WireReads.f k a0) (signetrylaw01_WireReads.f (k + 1) a0) := by
  intro a0 k
  obtain ⟨ih0, ih1⟩ := signetrylaw01_WireReads.mono_l k
  unfold signetrylaw01_WireReads.f
  repeat' first
      | (with_reducible exact ih0 _ _ _ _ _ _ _ _ _ _ _ _ _ _)
      | (with_reducible exact ih1 _ _ _ _ _ _ _ _ _ _ _ _ _ _)
      | (with_reducible exact signetrylaw01_same.mono _ _ _)
      | (with_reducible exact signetryref01_Next.mono _ _)
      | (with_reducible exact signetryref01_Split.mono _ _)
      | (with_reducible exact wire_Split.mono _ _)
      | (with_reducible exact LeO.refl _)
      | (with_reducible exact LeO.none _)
      | (with_reducible refine LeO.ite ?_ ?_)
      | (with_reducible refine LeO.bind ?_ (fun _ => ?_))
      | exact ih0 _ _ _ _ _ _ _ _ _ _ _ _ _ _
      | exact ih1 _ _ _ _ _ _ _ _ _ _ _ _ _ _
      | exact signetrylaw01_same.mono _ _ _
      | exact signetryref01_Next.mono _ _
      | exact signetryref01_Split.mono _ _
      | exact wire_Split.mono _ _
      | exact LeO.none _
      | refine LeO.ite ?_ ?_
      | refine LeO.bind ?_ (fun _ => ?_)
set_option maxHeartbeats 8000000 in
set_option maxRecDepth 100000 in
theorem signetrylaw01_WireReads.calls (k : Nat) (A0 : Option Addr) (c0 : Nat) (l0 : List Int) (r : Bool) (w : World) (hr0 : Kd.C (Kd.int .u8) w A0 l0.length l0) (hc0 : l0.length ≤ c0) (h : signetrylaw01_WireReads.f k l0 = some r) :
    Calls Try.prog 4 #[.slice A0 l0.length c0] w fun e w' => e = .returned (.bool r) ∧ Below w.heap.size w w' := by
  have hu33 := Try.underlying33
  have HR0 := Aside0.mk hr0
  have HC0 := Aside0.mk hc0
  clear hr0 hc0
  have HB := Aside0.mk (Below.refl w.heap.size w)
  have H : ((signetrylaw01_cut.f l0).bind fun t282 => ((signetryref00_CopyBytes.f t282).bind fun t285 => ((wire_Next.f t285).bind fun bt288 => ((signetryref01_Next.f k t282).bind fun bt300 => ((wire_Split.f k t285).bind fun bt312 => ((signetryref01_Split.f k t282).bind fun bt316 => ((signetryref01_Same.f bt288.1 bt288.2.1 bt288.2.2.1 bt288.2.2.2.1 bt288.2.2.2.2.1 bt300.1 bt300.2.1 bt300.2.2.1 bt300.2.2.2.1 bt300.2.2.2.2.1).bind fun t320 => (if t320 = true then (if bt288.2.2.2.2.2.1 = bt300.2.2.2.2.2.1 then (if bt288.2.2.2.2.2.2 = bt300.2.2.2.2.2.2 then ((signetrylaw01_same.f k bt312.1 bt316.1).bind fun t321 => (if t321 = true then (signetrylaw01_WireReads.j0 k t285 bt312.1 bt316.1 (bt312.2 != bt316.2) bt288.1 bt288.2.1 bt288.2.2.1 bt288.2.2.2.1 bt288.2.2.2.2.1 bt300.1 bt300.2.1 bt300.2.2.1 bt300.2.2.2.1 bt300.2.2.2.2.1) else (signetrylaw01_WireReads.j0 k t285 bt312.1 bt316.1 true bt288.1 bt288.2.1 bt288.2.2.1 bt288.2.2.2.1 bt288.2.2.2.2.1 bt300.1 bt300.2.1 bt300.2.2.1 bt300.2.2.2.1 bt300.2.2.2.2.1))) else (signetrylaw01_WireReads.j0 k t285 bt312.1 bt316.1 true bt288.1 bt288.2.1 bt288.2.2.1 bt288.2.2.2.1 bt288.2.2.2.2.1 bt300.1 bt300.2.1 bt300.2.2.1 bt300.2.2.2.1 bt300.2.2.2.2.1)) else (signetrylaw01_WireReads.j0 k t285 bt312.1 bt316.1 true bt288.1 bt288.2.1 bt288.2.2.1 bt288.2.2.2.1 bt288.2.2.2.2.1 bt300.1 bt300.2.1 bt300.2.2.1 bt300.2.2.2.1 bt300.2.2.2.2.1)) else (signetrylaw01_WireReads.j0 k t285 bt312.1 bt316.1 true bt288.1 bt288.2.1 bt288.2.2.1 bt288.2.2.2.1 bt288.2.2.2.2.1 bt300.1 bt300.2.1 bt300.2.2.1 bt300.2.2.2.1 bt300.2.2.2.2.1))))))))) = some r := h
  clear h
  replace H := Option.bind_eq_some_iff.mp H
  obtain ⟨t282, A20, H⟩ := H
  replace H : ((signetryref00_CopyBytes.f t282).bind fun t285 => ((wire_Next.f t285).bind fun bt288 => ((signetryref01_Next.f k t282).bind fun bt300 => ((wire_Split.f k t285).bind fun bt312 => ((signetryref01_Split.f k t282).bind fun bt316 => ((signetryref01_Same.f bt288.1 bt288.2.1 bt288.2.2.1 bt288.2.2.2.1 bt288.2.2.2.2.1 bt300.1 bt300.2.1 bt300.2.2.1 bt300.2.2.2.1 bt300.2.2.2.2.1).bind fun t320 => (if t320 = true then (if bt288.2.2.2.2.2.1 = bt300.2.2.2.2.2.1 then (if bt288.2.2.2.2.2.2 = bt300.2.2.2.2.2.2 then ((signetrylaw01_same.f k bt312.1 bt316.1).bind fun t321 => (if t321 = true then (signetrylaw01_WireReads.j0 k t285 bt312.1 bt316.1 (bt312.2 != bt316.2) bt288.1 bt288.2.1 bt288.2.2.1 bt288.2.2.2.1 bt288.2.2.2.2.1 bt300.1 bt300.2.1 bt300.2.2.1 bt300.2.2.2.1 bt300.2.2.2.2.1) else (signetrylaw01_WireReads.j0 k t285 bt312.1 bt316.1 true bt288.1 bt288.2.1 bt288.2.2.1 bt288.2.2.2.1 bt288.2.2.2.2.1 bt300.1 bt300.2.1 bt300.2.2.1 bt300.2.2.2.1 bt300.2.2.2.2.1))) else (signetrylaw01_WireReads.j0 k t285 bt312.1 bt316.1 true bt288.1 bt288.2.1 bt288.2.2.1 bt288.2.2.2.1 bt288.2.2.2.2.1 bt300.1 bt300.2.1 bt300.2.2.1 bt300.2.2.2.1 bt300.2.2.2.2.1)) else (signetrylaw01_WireReads.j0 k t285 bt312.1 bt316.1 true bt288.1 bt288.2.1 bt288.2.2.1 bt288.2.2.2.1 bt288.2.2.2.2.1 bt300.1 bt300.2.1 bt300.2.2.1 bt300.2.2.2.1 bt300.2.2.2.2.1)) else (signetrylaw01_WireReads.j0 k t285 bt312.1 bt316.1 true bt288.1 bt288.2.1 bt288.2.2.1 bt288.2.2.2.1 bt288.2.2.2.2.1 bt300.1 bt300.2.1 bt300.2.2.1 bt300.2.2.2.1 bt300.2.2.2.2.1)))))))) = some r := H
  have A2 := Aside0.mk A20
  clear A20
  replace H := Option.bind_eq_some_iff.mp H
  obtain ⟨t285, A30, H⟩ := H
  replace H : ((wire_Next.f t285).bind fun bt288 => ((signetryref01_Next.f k t282).bind fun bt300 => ((wire_Split.f k t285).bind fun bt312 => ((signetryref01_Split.f k t282).bind fun bt316 => ((signetryref01_Same.f bt288.1 bt288.2.1 bt288.2.2.1 bt288.2.2.2.1 bt288.2.2.2.2.1 bt300.1 bt300.2.1 bt300.2.2.1 bt300.2.2.2.1 bt300.2.2.2.2.1).bind fun t320 => (if t320 = true then (if bt288.2.2.2.2.2.1 = bt300.2.2.2.2.2.1 then (if bt288.2.2.2.2.2.2 = bt300.2.2.2.2.2.2 then ((signetrylaw01_same.f k bt312.1 bt316.1).bind fun t321 => (if t321 = true then (signetrylaw01_WireReads.j0 k t285 bt312.1 bt316.1 (bt312.2 != bt316.2) bt288.1 bt288.2.1 bt288.2.2.1 bt288.2.2.2.1 bt288.2.2.2.2.1 bt300.1 bt300.2.1 bt300.2.2.1 bt300.2.2.2.1 bt300.2.2.2.2.1) else (signetrylaw01_WireReads.j0 k t285 bt312.1 bt316.1 true bt288.1 bt288.2.1 bt288.2.2.1 bt288.2.2.2.1 bt288.2.2.2.2.1 bt300.1 bt300.2.1 bt300.2.2.1 bt300.2.2.2.1 bt300.2.2.2.2.1))) else (signetrylaw01_WireReads.j0 k t285 bt312.1 bt316.1 true bt288.1 bt288.2.1 bt288.2.2.1 bt288.2.2.2.1 bt288.2.2.2.2.1 bt300.1 bt300.2.1 bt300.2.2.1 bt300.2.2.2.1 bt300.2.2.2.2.1)) else (signetrylaw01_WireReads.j0 k t285 bt312.1 bt316.1 true bt288.1 bt288.2.1 bt288.2.2.1 bt288.2.2.2.1 bt288.2.2.2.2.1 bt300.1 bt300.2.1 bt300.2.2.1 bt300.2.2.2.1 bt300.2.2.2.2.1)) else (signetrylaw01_WireReads.j0 k t285 bt312.1 bt316.1 true bt288.1 bt288.2.1 bt288.2.2.1 bt288.2.2.2.1 bt288.2.2.2.2.1 bt300.1 bt300.2.1 bt300.2.2.1 bt300.2.2.2.1 bt300.2.2.2.2.1))))))) = some r := H
  have A3 := Aside0.mk A30
  clear A30
  replace H := Option.bind_eq_some_iff.mp H
  obtain ⟨⟨t288, t289, t290, t291, t294, t297, t298⟩, A40, H⟩ := H
  replace H : ((signetryref01_Next.f k t282).bind fun bt300 => ((wire_Split.f k t285).bind fun bt312 => ((signetryref01_Split.f k t282).bind fun bt316 => ((signetryref01_Same.f t288 t289 t290 t291 t294 bt300.1 bt300.2.1 bt300.2.2.1 bt300.2.2.2.1 bt300.2.2.2.2.1).bind fun t320 => (if t320 = true then (if t297 = bt300.2.2.2.2.2.1 then (if t298 = bt300.2.2.2.2.2.2 then ((signetrylaw01_same.f k bt312.1 bt316.1).bind fun t321 => (if t321 = true then (signetrylaw01_WireReads.j0 k t285 bt312.1 bt316.1 (bt312.2 != bt316.2) t288 t289 t290 t291 t294 bt300.1 bt300.2.1 bt300.2.2.1 bt300.2.2.2.1 bt300.2.2.2.2.1) else (signetrylaw01_WireReads.j0 k t285 bt312.1 bt316.1 true t288 t289 t290 t291 t294 bt300.1 bt300.2.1 bt300.2.2.1 bt300.2.2.2.1 bt300.2.2.2.2.1))) else (signetrylaw01_WireReads.j0 k t285 bt312.1 bt316.1 true t288 t289 t290 t291 t294 bt300.1 bt300.2.1 bt300.2.2.1 bt300.2.2.2.1 bt300.2.2.2.2.1)) else (signetrylaw01_WireReads.j0 k t285 bt312.1 bt316.1 true t288 t289 t290 t291 t294 bt300.1 bt300.2.1 bt300.2.2.1 bt300.2.2.2.1 bt300.2.2.2.2.1)) else (signetrylaw01_WireReads.j0 k t285 bt312.1 bt316.1 true t288 t289 t290 t291 t294 bt300.1 bt300.2.1 bt300.2.2.1 bt300.2.2.2.1 bt300.2.2.2.2.1)))))) = some r := H
  have A4 := Aside0.mk A40
  clear A40
  replace H := Option.bind_eq_some_iff.mp H
  obtain ⟨⟨t300, t301, t302, t303, t306, t309, t310⟩, A50, H⟩ := H
  replace H : ((wire_Split.f k t285).bind fun bt312 => ((signetryref01_Split.f k t282).bind fun bt316 => ((signetryref01_Same.f t288 t289 t290 t291 t294 t300 t301 t302 t303 t306).bind fun t320 => (if t320 = true then (if t297 = t309 then (if t298 = t310 then ((signetrylaw01_same.f k bt312.1 bt316.1).bind fun t321 => (if t321 = true then (signetrylaw01_WireReads.j0 k t285 bt312.1 bt316.1 (bt312.2 != bt316.2) t288 t289 t290 t291 t294 t300 t301 t302 t303 t306) else (signetrylaw01_WireReads.j0 k t285 bt312.1 bt316.1 true t288 t289 t290 t291 t294 t300 t301 t302 t303 t306))) else (signetrylaw01_WireReads.j0 k t285 bt312.1 bt316.1 true t288 t289 t290 t291 t294 t300 t301 t302 t303 t306)) else (signetrylaw01_WireReads.j0 k t285 bt312.1 bt316.1 true t288 t289 t290 t291 t294 t300 t301 t302 t303 t306)) else (signetrylaw01_WireReads.j0 k t285 bt312.1 bt316.1 true t288 t289 t290 t291 t294 t300 t301 t302 t303 t306))))) = some r := H
  have A5 := Aside0.mk A50
  clear A50
  replace H := Option.bind_eq_some_iff.mp H
  obtain ⟨⟨t312, t315⟩, A60, H⟩ := H
  replace H : ((signetryref01_Split.f k t282).bind fun bt316 => ((signetryref01_Same.f t288 t289 t290 t291 t294 t300 t301 t302 t303 t306).bind fun t320 => (if t320 = true then (if t297 = t309 then (if t298 = t310 then ((signetrylaw01_same.f k t312 bt316.1).bind fun t321 => (if t321 = true then (signetrylaw01_WireReads.j0 k t285 t312 bt316.1 (t315 != bt316.2) t288 t289 t290 t291 t294 t300 t301 t302 t303 t306) else (signetrylaw01_WireReads.j0 k t285 t312 bt316.1 true t288 t289 t290 t291 t294 t300 t301 t302 t303 t306))) else (signetrylaw01_WireReads.j0 k t285 t312 bt316.1 true t288 t289 t290 t291 t294 t300 t301 t302 t303 t306)) else (signetrylaw01_WireReads.j0 k t285 t312 bt316.1 true t288 t289 t290 t291 t294 t300 t301 t302 t303 t306)) else (signetrylaw01_WireReads.j0 k t285 t312 bt316.1 true t288 t289 t290 t291 t294 t300 t301 t302 t303 t306)))) = some r := H
  have A6 := Aside0.mk A60
  clear A60
  replace H := Option.bind_eq_some_iff.mp H
  obtain ⟨⟨t316, t319⟩, A70, H⟩ := H
  replace H : ((signetryref01_Same.f t288 t289 t290 t291 t294 t300 t301 t302 t303 t306).bind fun t320 => (if t320 = true then (if t297 = t309 then (if t298 = t310 then ((signetrylaw01_same.f k t312 t316).bind fun t321 => (if t321 = true then (signetrylaw01_WireReads.j0 k t285 t312 t316 (t315 != t319) t288 t289 t290 t291 t294 t300 t301 t302 t303 t306) else (signetrylaw01_WireReads.j0 k t285 t312 t316 true t288 t289 t290 t291 t294 t300 t301 t302 t303 t306))) else (signetrylaw01_WireReads.j0 k t285 t312 t316 true t288 t289 t290 t291 t294 t300 t301 t302 t303 t306)) else (signetrylaw01_WireReads.j0 k t285 t312 t316 true t288 t289 t290 t291 t294 t300 t301 t302 t303 t306)) else (signetrylaw01_WireReads.j0 k t285 t312 t316 true t288 t289 t290 t291 t294 t300 t301 t302 t303 t306))) = some r := H
  have A7 := Aside0.mk A70
  clear A70
  have HC8 := Aside0.mk H
  clear H
  go_enter Try.func4, Try.ntmps4
  go_upto_region 7 with (first | ((with_reducible refine gate_callee (f := 23) rfl ?_); refine goesL_ (some 16) rfl rfl Try.func23 (by kernel_rfl) rfl #[.slice A0 l0.length c0] rfl (by (try simp only [List.map_toArray, List.map_cons, List.map_nil]); first | done | rfl | (simp only [List.length_drop, List.length_take]; rfl)) ?_; (with_reducible refine (signetrylaw01_cut.calls (fun k_ => k_ < w.heap.size) _ _ l0 t282 _ ?side1 A2.out).mono ?_); (case side1 => exact Kd.V_mk HC0.out (Kd.F_below (Kd.C_F (Kd.heap_int .u8) HR0.out) (by repeat (first | (with_reducible first | exact HB.out | apply below_alloc | apply pw_below_drewN | apply below_drew1) | exact HB.out)))); rintro e w9 ⟨v283, rfl, ho0, hb⟩; refine ⟨_, rfl, ?_⟩; have n0_ := Aside0.mk (Kd.V_lower (Kd.V_mono (ok' := fun k_ => True) ho0 (fun k_ hk_ => trivial)) (below_size (by repeat (first | (with_reducible first | exact HB.out | apply below_alloc | apply pw_below_drewN | apply below_drew1) | exact HB.out)))); have n1_ := Aside0.mk (below_step (by repeat (first | (with_reducible first | exact HB.out | apply below_alloc | apply pw_below_drewN | apply below_drew1) | exact HB.out)) hb); clear HB; have HO284 := n0_; have HB := n1_; clear n0_ n1_; (try clear hb); (try clear hb2); (try clear hk); (try clear hi); (try clear ho0); obtain ⟨Ao10, co10, eo10⟩ := Kd.V_slice HO284.out; subst eo10) | ((with_reducible refine gate_callee (f := 12) rfl ?_); refine goesL_ (some 18) rfl rfl Try.func12 (by kernel_rfl) rfl #[.slice Ao10 t282.length co10] rfl (by (try simp only [List.map_toArray, List.map_cons, List.map_nil]); first | done | rfl | (simp only [List.length_drop, List.length_take]; rfl)) ?_; (with_reducible refine (signetryref00_CopyBytes.calls _ _ t282 t285 _ ?side1 ?side2 A3.out).mono ?_); (case side1 => repeat (first | exact (Kd.V_reads' HO284.out).2.2 | (with_reducible refine Kd.C_alloc ?_ _) | (with_reducible refine Kd.C_drewN ?_ _) | (with_reducible refine Kd.C_drew ?_))); (case side2 => exact (Kd.V_reads' HO284.out).2.1); rintro e w11 ⟨v286, rfl, ho0, hb⟩; refine ⟨_, rfl, ?_⟩; have n0_ := Aside0.mk (Kd.V_elder' (by (with_reducible repeat (first | apply Kd.V_alloc | apply Kd.V_drewN | apply Kd.V_drew)); exact HO284.out) (Kd.R_base ho0) hb); have n1_ := Aside0.mk (Kd.R_lower ho0 (below_size (by repeat (first | (with_reducible first | exact HB.out | apply below_alloc | apply pw_below_drewN | apply below_drew1) | exact HB.out)))); have n2_ := Aside0.mk (below_step (by repeat (first | (with_reducible first | exact HB.out | apply below_alloc | apply pw_below_drewN | apply below_drew1) | exact HB.out)) hb); clear HO284; clear HB; have HO284 := n0_; have HO287 := n1_; have HB := n2_; clear n0_ n1_ n2_; (try clear hb); (try clear hb2); (try clear hk); (try clear hi); (try clear ho0); obtain ⟨Ao12, co12, eo12⟩ := Kd.R_slice HO287.out; subst eo12) | ((with_reducible refine gate_callee (f := 24) rfl ?_); refine goesL_ (some 21) rfl rfl Try.func24 (by kernel_rfl) rfl #[.slice Ao12 t285.length co12] rfl (by (try simp only [List.map_toArray, List.map_cons, List.map_nil]); first | done | rfl | (simp only [List.length_drop, List.length_take]; rfl)) ?_; (with_reducible refine (wire_Next.calls _ _ t285 t288 t289 t290 t291 t294 t297 t298 _ ?side1 ?side2 A4.out).mono ?_); (case side1 => repeat (first | exact (Kd.R_reads' HO287.out).2.2 | (with_reducible refine Kd.C_alloc ?_ _) | (with_reducible refine Kd.C_drewN ?_ _) | (with_reducible refine Kd.C_drew ?_))); (case side2 => exact (Kd.R_reads' HO287.out).2.1); rintro e w13 ⟨v292, v295, rfl, ho0, ho1, hb⟩; refine ⟨_, rfl, ?_⟩; have n0_ := Aside0.mk (Kd.V_mono (Kd.V_told (Kd.V_told (Kd.V_old (by (with_reducible repeat (first | apply Kd.V_alloc | apply Kd.V_drewN | apply Kd.V_drew)); exact HO284.out) hb) (Kd.R_base ho0)) (Kd.R_base ho1)) (fun _ h_ => h_.1)); have n1_ := Aside0.mk (Kd.R_mono (Kd.R_told (Kd.R_told (Kd.R_old (by (with_reducible repeat (first | apply Kd.R_alloc | apply Kd.R_drewN | apply Kd.R_drew)); exact HO287.out) hb) (Kd.R_base ho0)) (Kd.R_base ho1)) (fun _ h_ => h_.1)); have n2_ := Aside0.mk (Kd.R_lower (Kd.R_new' ho0 (Kd.R_lt (by (with_reducible repeat (first | apply Kd.R_alloc | apply Kd.R_drewN | apply Kd.R_drew)); exact HO287.out))) (below_size (by repeat (first | (with_reducible first | exact HB.out | apply below_alloc | apply pw_below_drewN | apply below_drew1) | exact HB.out)))); have n3_ := Aside0.mk (Kd.R_lower (Kd.R_new' ho1 (Kd.R_lt (by (with_reducible repeat (first | apply Kd.R_alloc | apply Kd.R_drewN | apply Kd.R_drew)); exact HO287.out))) (below_size (by repeat (first | (with_reducible first | exact HB.out | apply below_alloc | apply pw_below_drewN | apply below_drew1) | exact HB.out)))); have n4_ := Aside0.mk (below_step (by repeat (first | (with_reducible first | exact HB.out | apply below_alloc | apply pw_below_drewN | apply below_drew1) | exact HB.out)) hb); clear HO284; clear HO287; clear HB; have HO284 := n0_; have HO287 := n1_; have HO293 := n2_; have HO296 := n3_; have HB := n4_; clear n0_ n1_ n2_ n3_ n4_; (try clear hb); (try clear hb2); (try clear hk); (try clear hi); (try clear ho0); (try clear ho1)) | ((with_reducible refine gate_dst (N := 4) rfl ?_); refine box_event ?hg (N := 4) ?hd (cs := #[.int .i64 0, .int .i64 0, .int .u64 0, .slice none 0 0, .slice none 0 0]) (t := 33) ?hr ?_; (case hd => rfl); (case hg => rfl); (case hr => first | (go_simp; done) | (go_simp; rfl)); intro gb299 hg w14 hbox hb; have n0_ := Aside0.mk (Kd.V_below (Kd.V_elderB (by (with_reducible repeat (first | apply Kd.V_alloc | apply Kd.V_drewN | apply Kd.V_drew)); exact HO284.out) gb299 (Nat.le_of_eq hg.symm)) hb); have n1_ := Aside0.mk (Kd.R_below (by (with_reducible repeat (first | apply Kd.R_alloc | apply Kd.R_drewN | apply Kd.R_drew)); exact HO287.out) hb); have n2_ := Aside0.mk (Kd.R_below (by (with_reducible repeat (first | apply Kd.R_alloc | apply Kd.R_drewN | apply Kd.R_drew)); exact HO293.out) hb); have n3_ := Aside0.mk (Kd.R_below (by (with_reducible repeat (first | apply Kd.R_alloc | apply Kd.R_drewN | apply Kd.R_drew)); exact HO296.out) hb); have n4_ := Aside0.mk (below_step (by repeat (first | (with_reducible first | exact HB.out | apply below_alloc | apply pw_below_drewN | apply below_drew1) | exact HB.out)) hb); have n5_ := Aside0.mk (hbox); have n6_ := Aside0.mk ((by rw [hg]; exact (below_size (by repeat (first | (with_reducible first | exact HB.out | apply below_alloc | apply pw_below_drewN | apply below_drew1) | exact HB.out))) : w.heap.size ≤ gb299)); have n7_ := Aside0.mk ((by rw [hg]; exact (below_size (by repeat (first | (with_reducible first | exact HB.out | apply below_alloc | apply pw_below_drewN | apply below_drew1) | exact HB.out))) : w.heap.size ≤ gb299)); clear HO284; clear HO287; clear HO293; clear HO296; clear HB; have HO284 := n0_; have HO287 := n1_; have HO293 := n2_; have HO296 := n3_; have HB := n4_; have BK299 := n5_; have GW299 := n6_; have GE299 := n7_; clear n0_ n1_ n2_ n3_ n4_ n5_ n6_ n7_; clear hb hbox hg; have hcz15_0 : w14.cell? ⟨gb299, 0, none⟩ = some (.int .i64 0) := (blk_cell BK299.out 0).trans rfl; have hcz15_1 : w14.cell? ⟨gb299, 1, none⟩ = some (.int .i64 0) := (blk_cell BK299.out 1).trans rfl; have hcz15_2 : w14.cell? ⟨gb299, 2, none⟩ = some (.int .u64 0) := (blk_cell BK299.out 2).trans rfl; have hcz15_3 : w14.cell? ⟨gb299, 3, none⟩ = some (.slice none 0 0) := (blk_cell BK299.out 3).trans rfl; have hcz15_4 : w14.cell? ⟨gb299, 4, none⟩ = some (.slice none 0 0) := (blk_cell BK299.out 4).trans rfl; have hfz15_0 := blk_frozen BK299.out 0; have hfz15_1 := blk_frozen BK299.out 1; have hfz15_2 := blk_frozen BK299.out 2; have hfz15_3 := blk_frozen BK299.out 3; have hfz15_4 := blk_frozen BK299.out 4; obtain ⟨Ao16, co16, eo16⟩ := Kd.R_slice HO293.out; subst eo16; obtain ⟨Ao17, co17, eo17⟩ := Kd.R_slice HO296.out; subst eo17) | ((with_reducible refine gate_callee (f := 25) rfl ?_); refine goesL_ (some 27) rfl rfl Try.func25 (by kernel_rfl) rfl #[.slice Ao10 t282.length co10] rfl (by (try simp only [List.map_toArray, List.map_cons, List.map_nil]); first | done | rfl | (simp only [List.length_drop, List.length_take]; rfl)) ?_; (with_reducible refine (signetryref01_Next.calls k _ _ t282 t300 t301 t302 t303 t306 t309 t310 _ ?side1 ?side2 A5.out).mono ?_); (case side1 => refine (Kd.V_reads' (e := 5) (base := w.heap.size) (ok := fun k_ => ((((True ∧ some k_ ≠ (.slice Ao12 t285.length co12 : Value).ownBlock) ∧ some k_ ≠ (.slice Ao16 t291.length co16 : Value).ownBlock) ∧ some k_ ≠ (.slice Ao17 t294.length co17 : Value).ownBlock) ∧ k_ ≠ gb299)) (n := t282.length) (c := co10) ?_).2.2; exact (by (with_reducible repeat (first | apply Kd.V_alloc | apply Kd.V_drewN | apply Kd.V_drew)); exact (Kd.V_mono (Kd.V_far (p := ⟨gb299, 4, none⟩) (Kd.V_far (p := ⟨gb299, 3, none⟩) (Kd.V_far (p := ⟨gb299, 2, none⟩) (Kd.V_far (p := ⟨gb299, 1, none⟩) (Kd.V_far (p := ⟨gb299, 0, none⟩) (Kd.V_mono HO284.out (fun k_ hk => (⟨hk, hk.2⟩ : _ ∧ k_ ≠ gb299))) (fun _ hk => hk.2) (.int .i64 t288)) (fun _ hk => hk.2) (.int .i64 t289)) (fun _ hk => hk.2) (.int .u64 t290)) (fun _ hk => hk.2) (.slice Ao16 t291.length co16)) (fun _ hk => hk.2) (.slice Ao17 t294.length co17)) (fun _ h_ => h_.1)))); (case side2 => exact (Kd.V_reads' HO284.out).2.1); rintro e w18 ⟨v304, v307, rfl, ho0, ho1, hb⟩; refine ⟨_, rfl, ?_⟩; have n0_ := Aside0.mk (Kd.V_mono (Kd.V_told (Kd.V_told (Kd.V_old (by (with_reducible repeat (first | apply Kd.V_alloc | apply Kd.V_drewN | apply Kd.V_drew)); exact (Kd.V_mono (Kd.V_far (p := ⟨gb299, 4, none⟩) (Kd.V_far (p := ⟨gb299, 3, none⟩) (Kd.V_far (p := ⟨gb299, 2, none⟩) (Kd.V_far (p := ⟨gb299, 1, none⟩) (Kd.V_far (p := ⟨gb299, 0, none⟩) (Kd.V_mono HO284.out (fun k_ hk => (⟨hk, hk.2⟩ : _ ∧ k_ ≠ gb299))) (fun _ hk => hk.2) (.int .i64 t288)) (fun _ hk => hk.2) (.int .i64 t289)) (fun _ hk => hk.2) (.int .u64 t290)) (fun _ hk => hk.2) (.slice Ao16 t291.length co16)) (fun _ hk => hk.2) (.slice Ao17 t294.length co17)) (fun _ h_ => h_.1))) hb) (Kd.R_base ho0)) (Kd.R_base ho1)) (fun _ h_ => h_.1)); have n1_ := Aside0.mk (Kd.R_mono (Kd.R_told (Kd.R_told (Kd.R_old (by (with_reducible repeat (first | apply Kd.R_alloc | apply Kd.R_drewN | apply Kd.R_drew)); exact (Kd.R_mono (Kd.R_far (p := ⟨gb299, 4, none⟩) (Kd.R_far (p := ⟨gb299, 3, none⟩) (Kd.R_far (p := ⟨gb299, 2, none⟩) (Kd.R_far (p := ⟨gb299, 1, none⟩) (Kd.R_far (p := ⟨gb299, 0, none⟩) (Kd.R_types HO287.out BK299.out (by decide)) (fun _ hk => hk.2) (.int .i64 t288)) (fun _ hk => hk.2) (.int .i64 t289)) (fun _ hk => hk.2) (.int .u64 t290)) (fun _ hk => hk.2) (.slice Ao16 t291.length co16)) (fun _ hk => hk.2) (.slice Ao17 t294.length co17)) (fun _ h_ => h_.1))) hb) (Kd.R_base ho0)) (Kd.R_base ho1)) (fun _ h_ => h_.1)); have n2_ := Aside0.mk (Kd.R_mono (Kd.R_told (Kd.R_told (Kd.R_old (by (with_reducible repeat (first | apply Kd.R_alloc | apply Kd.R_drewN | apply Kd.R_drew)); exact (Kd.R_mono (Kd.R_far (p := ⟨gb299, 4, none⟩) (Kd.R_far (p := ⟨gb299, 3, none⟩) (Kd.R_far (p := ⟨gb299, 2, none⟩) (Kd.R_far (p := ⟨gb299, 1, none⟩) (Kd.R_far (p := ⟨gb299, 0, none⟩) (Kd.R_types HO293.out BK299.out (by decide)) (fun _ hk => hk.2) (.int .i64 t288)) (fun _ hk => hk.2) (.int .i64 t289)) (fun _ hk => hk.2) (.int .u64 t290)) (fun _ hk => hk.2) (.slice Ao16 t291.length co16)) (fun _ hk => hk.2) (.slice Ao17 t294.length co17)) (fun _ h_ => h_.1))) hb) (Kd.R_base ho0)) (Kd.R_base ho1)) (fun _ h_ => h_.1)); have n3_ := Aside0.mk (Kd.R_mono (Kd.R_told (Kd.R_told (Kd.R_old (by (with_reducible repeat (first | apply Kd.R_alloc | apply Kd.R_drewN | apply Kd.R_drew)); exact (Kd.R_mono (Kd.R_far (p := ⟨gb299, 4, none⟩) (Kd.R_far (p := ⟨gb299, 3, none⟩) (Kd.R_far (p := ⟨gb299, 2, none⟩) (Kd.R_far (p := ⟨gb299, 1, none⟩) (Kd.R_far (p := ⟨gb299, 0, none⟩) (Kd.R_types HO296.out BK299.out (by decide)) (fun _ hk => hk.2) (.int .i64 t288)) (fun _ hk => hk.2) (.int .i64 t289)) (fun _ hk => hk.2) (.int .u64 t290)) (fun _ hk => hk.2) (.slice Ao16 t291.length co16)) (fun _ hk => hk.2) (.slice Ao17 t294.length co17)) (fun _ h_ => h_.1))) hb) (Kd.R_base ho0)) (Kd.R_base ho1)) (fun _ h_ => h_.1)); have n4_ := Aside0.mk (Kd.R_lower (Kd.R_new' (Kd.R_new' (Kd.R_new' ho0 (Kd.R_lt (by (with_reducible repeat (first | apply Kd.R_alloc | apply Kd.R_drewN | apply Kd.R_drew)); exact (Kd.R_mono (Kd.R_far (p := ⟨gb299, 4, none⟩) (Kd.R_far (p := ⟨gb299, 3, none⟩) (Kd.R_far (p := ⟨gb299, 2, none⟩) (Kd.R_far (p := ⟨gb299, 1, none⟩) (Kd.R_far (p := ⟨gb299, 0, none⟩) (Kd.R_types HO287.out BK299.out (by decide)) (fun _ hk => hk.2) (.int .i64 t288)) (fun _ hk => hk.2) (.int .i64 t289)) (fun _ hk => hk.2) (.int .u64 t290)) (fun _ hk => hk.2) (.slice Ao16 t291.length co16)) (fun _ hk => hk.2) (.slice Ao17 t294.length co17)) (fun _ h_ => h_.1))))) (Kd.R_lt (by (with_reducible repeat (first | apply Kd.R_alloc | apply Kd.R_drewN | apply Kd.R_drew)); exact (Kd.R_mono (Kd.R_far (p := ⟨gb299, 4, none⟩) (Kd.R_far (p := ⟨gb299, 3, none⟩) (Kd.R_far (p := ⟨gb299, 2, none⟩) (Kd.R_far (p := ⟨gb299, 1, none⟩) (Kd.R_far (p := ⟨gb299, 0, none⟩) (Kd.R_types HO293.out BK299.out (by decide)) (fun _ hk => hk.2) (.int .i64 t288)) (fun _ hk => hk.2) (.int .i64 t289)) (fun _ hk => hk.2) (.int .u64 t290)) (fun _ hk => hk.2) (.slice Ao16 t291.length co16)) (fun _ hk => hk.2) (.slice Ao17 t294.length co17)) (fun _ h_ => h_.1))))) (Kd.R_lt (by (with_reducible repeat (first | apply Kd.R_alloc | apply Kd.R_drewN | apply Kd.R_drew)); exact (Kd.R_mono (Kd.R_far (p := ⟨gb299, 4, none⟩) (Kd.R_far (p := ⟨gb299, 3, none⟩) (Kd.R_far (p := ⟨gb299, 2, none⟩) (Kd.R_far (p := ⟨gb299, 1, none⟩) (Kd.R_far (p := ⟨gb299, 0, none⟩) (Kd.R_types HO296.out BK299.out (by decide)) (fun _ hk => hk.2) (.int .i64 t288)) (fun _ hk => hk.2) (.int .i64 t289)) (fun _ hk => hk.2) (.int .u64 t290)) (fun _ hk => hk.2) (.slice Ao16 t291.length co16)) (fun _ hk => hk.2) (.slice Ao17 t294.length co17)) (fun _ h_ => h_.1))))) (below_size (by repeat (first | (with_reducible first | exact HB.out | apply below_alloc | apply pw_below_drewN | apply below_drew1 | refine below_set ?_ GE299.out) | exact HB.out)))); have n5_ := Aside0.mk (Kd.R_lower (Kd.R_new' (Kd.R_new' (Kd.R_new' ho1 (Kd.R_lt (by (with_reducible repeat (first | apply Kd.R_alloc | apply Kd.R_drewN | apply Kd.R_drew)); exact (Kd.R_mono (Kd.R_far (p := ⟨gb299, 4, none⟩) (Kd.R_far (p := ⟨gb299, 3, none⟩) (Kd.R_far (p := ⟨gb299, 2, none⟩) (Kd.R_far (p := ⟨gb299, 1, none⟩) (Kd.R_far (p := ⟨gb299, 0, none⟩) (Kd.R_types HO287.out BK299.out (by decide)) (fun _ hk => hk.2) (.int .i64 t288)) (fun _ hk => hk.2) (.int .i64 t289)) (fun _ hk => hk.2) (.int .u64 t290)) (fun _ hk => hk.2) (.slice Ao16 t291.length co16)) (fun _ hk => hk.2) (.slice Ao17 t294.length co17)) (fun _ h_ => h_.1))))) (Kd.R_lt (by (with_reducible repeat (first | apply Kd.R_alloc | apply Kd.R_drewN | apply Kd.R_drew)); exact (Kd.R_mono (Kd.R_far (p := ⟨gb299, 4, none⟩) (Kd.R_far (p := ⟨gb299, 3, none⟩) (Kd.R_far (p := ⟨gb299, 2, none⟩) (Kd.R_far (p := ⟨gb299, 1, none⟩) (Kd.R_far (p := ⟨gb299, 0, none⟩) (Kd.R_types HO293.out BK299.out (by decide)) (fun _ hk => hk.2) (.int .i64 t288)) (fun _ hk => hk.2) (.int .i64 t289)) (fun _ hk => hk.2) (.int .u64 t290)) (fun _ hk => hk.2) (.slice Ao16 t291.length co16)) (fun _ hk => hk.2) (.slice Ao17 t294.length co17)) (fun _ h_ => h_.1))))) (Kd.R_lt (by (with_reducible repeat (first | apply Kd.R_alloc | apply Kd.R_drewN | apply Kd.R_drew)); exact (Kd.R_mono (Kd.R_far (p := ⟨gb299, 4, none⟩) (Kd.R_far (p := ⟨gb299, 3, none⟩) (Kd.R_far (p := ⟨gb299, 2, none⟩) (Kd.R_far (p := ⟨gb299, 1, none⟩) (Kd.R_far (p := ⟨gb299, 0, none⟩) (Kd.R_types HO296.out BK299.out (by decide)) (fun _ hk => hk.2) (.int .i64 t288)) (fun _ hk => hk.2) (.int .i64 t289)) (fun _ hk => hk.2) (.int .u64 t290)) (fun _ hk => hk.2) (.slice Ao16 t291.length co16)) (fun _ hk => hk.2) (.slice Ao17 t294.length co17)) (fun _ h_ => h_.1))))) (below_size (by repeat (first | (with_reducible first | exact HB.out | apply below_alloc | apply pw_below_drewN | apply below_drew1 | refine below_set ?_ GE299.out) | exact HB.out)))); have n6_ := Aside0.mk (blk_below (g := gb299) (o := .cells #[.int .i64 t288, .int .i64 t289, .int .u64 t290, .slice Ao16 t291.length co16, .slice Ao17 t294.length co17] 33 (0, 0)) (by (with_reducible repeat (first | refine blk_drewN ?_ _ | refine blk_drew ?_ | refine blk_alloc ?_ _)); refine blk_put (cs := #[.int .i64 t288, .int .i64 t289, .int .u64 t290, .slice Ao16 t291.length co16, .slice none 0 0]) ?_ 4 _ rfl; (with_reducible repeat (first | refine blk_drewN ?_ _ | refine blk_drew ?_ | refine blk_alloc ?_ _)); refine blk_put (cs := #[.int .i64 t288, .int .i64 t289, .int .u64 t290, .slice none 0 0, .slice none 0 0]) ?_ 3 _ rfl; (with_reducible repeat (first | refine blk_drewN ?_ _ | refine blk_drew ?_ | refine blk_alloc ?_ _)); refine blk_put (cs := #[.int .i64 t288, .int .i64 t289, .int .u64 0, .slice none 0 0, .slice none 0 0]) ?_ 2 _ rfl; (with_reducible repeat (first | refine blk_drewN ?_ _ | refine blk_drew ?_ | refine blk_alloc ?_ _)); refine blk_put (cs := #[.int .i64 t288, .int .i64 0, .int .u64 0, .slice none 0 0, .slice none 0 0]) ?_ 1 _ rfl; (with_reducible repeat (first | refine blk_drewN ?_ _ | refine blk_drew ?_ | refine blk_alloc ?_ _)); refine blk_put (cs := #[.int .i64 0, .int .i64 0, .int .u64 0, .slice none 0 0, .slice none 0 0]) ?_ 0 _ rfl; (with_reducible repeat (first | refine blk_drewN ?_ _ | refine blk_drew ?_ | refine blk_alloc ?_ _)); exact BK299.out) hb); have n7_ := Aside0.mk (below_step (by repeat (first | (with_reducible first | exact HB.out | apply below_alloc | apply pw_below_drewN | apply below_drew1 | refine below_set ?_ GE299.out) | exact HB.out)) hb); clear HO284; clear HO287; clear HO293; clear HO296; clear BK299; clear HB; have HO284 := n0_; have HO287 := n1_; have HO293 := n2_; have HO296 := n3_; have HO305 := n4_; have HO308 := n5_; have BK299 := n6_; have HB := n7_; clear n0_ n1_ n2_ n3_ n4_ n5_ n6_ n7_; (try clear hb); (try clear hb2); (try clear hk); (try clear hi); (try clear ho0); (try clear ho1)) | ((with_reducible refine gate_dst (N := 7) rfl ?_); refine box_event ?hg (N := 7) ?hd (cs := #[.int .i64 0, .int .i64 0, .int .u64 0, .slice none 0 0, .slice none 0 0]) (t := 33) ?hr ?_; (case hd => rfl); (case hg => rfl); (case hr => first | (go_simp; done) | (go_simp; rfl)); intro gb311 hg w19 hbox hb; have n0_ := Aside0.mk (Kd.V_below (Kd.V_elderB (by (with_reducible repeat (first | apply Kd.V_alloc | apply Kd.V_drewN | apply Kd.V_drew)); exact HO284.out) gb311 (Nat.le_of_eq hg.symm)) hb); have n1_ := Aside0.mk (Kd.R_below (by (with_reducible repeat (first | apply Kd.R_alloc | apply Kd.R_drewN | apply Kd.R_drew)); exact HO287.out) hb); have n2_ := Aside0.mk (Kd.R_below (by (with_reducible repeat (first | apply Kd.R_alloc | apply Kd.R_drewN | apply Kd.R_drew)); exact HO293.out) hb); have n3_ := Aside0.mk (Kd.R_below (by (with_reducible repeat (first | apply Kd.R_alloc | apply Kd.R_drewN | apply Kd.R_drew)); exact HO296.out) hb); have n4_ := Aside0.mk (Kd.R_below (by (with_reducible repeat (first | apply Kd.R_alloc | apply Kd.R_drewN | apply Kd.R_drew)); exact HO305.out) hb); have n5_ := Aside0.mk (Kd.R_below (by (with_reducible repeat (first | apply Kd.R_alloc | apply Kd.R_drewN | apply Kd.R_drew)); exact HO308.out) hb); have n6_ := Aside0.mk (blk_below (g := gb299) (o := .cells #[.int .i64 t288, .int .i64 t289, .int .u64 t290, .slice Ao16 t291.length co16, .slice Ao17 t294.length co17] 33 (0, 0)) (by (with_reducible repeat (first | refine blk_drewN ?_ _ | refine blk_drew ?_ | refine blk_alloc ?_ _)); exact BK299.out) hb); have n7_ := Aside0.mk (below_step (by repeat (first | (with_reducible first | exact HB.out | apply below_alloc | apply pw_below_drewN | apply below_drew1 | refine below_set ?_ GE299.out) | exact HB.out)) hb); have n8_ := Aside0.mk (hbox); have n9_ := Aside0.mk ((by rw [hg]; exact (below_size (by repeat (first | (with_reducible first | exact HB.out | apply below_alloc | apply pw_below_drewN | apply below_drew1 | refine below_set ?_ GE299.out) | exact HB.out))) : w.heap.size ≤ gb311)); have n10_ := Aside0.mk ((by rw [hg]; exact (below_size (by repeat (first | (with_reducible first | exact HB.out | apply below_alloc | apply pw_below_drewN | apply below_drew1 | refine below_set ?_ GE299.out) | exact HB.out))) : w.heap.size ≤ gb311)); have n11_ := Aside0.mk ((by rw [hg]; exact Nat.ne_of_lt (blk_lt (g := gb299) (o := .cells #[.int .i64 t288, .int .i64 t289, .int .u64 t290, .slice Ao16 t291.length co16, .slice Ao17 t294.length co17] 33 (0, 0)) (by (with_reducible repeat (first | refine blk_drewN ?_ _ | refine blk_drew ?_ | refine blk_alloc ?_ _)); exact BK299.out)) : gb299 ≠ gb311)); have n12_ := Aside0.mk ((by rw [hg]; exact Nat.ne_of_gt (blk_lt (g := gb299) (o := .cells #[.int .i64 t288, .int .i64 t289, .int .u64 t290, .slice Ao16 t291.length co16, .slice Ao17 t294.length co17] 33 (0, 0)) (by (with_reducible repeat (first | refine blk_drewN ?_ _ | refine blk_drew ?_ | refine blk_alloc ?_ _)); exact BK299.out)) : gb311 ≠ gb299)); clear HO284; clear HO287; clear HO293; clear HO296; clear HO305; clear HO308; clear BK299; clear HB; have HO284 := n0_; have HO287 := n1_; have HO293 := n2_; have HO296 := n3_; have HO305 := n4_; have HO308 := n5_; have BK299 := n6_; have HB := n7_; have BK311 := n8_; have GW311 := n9_; have GE311 := n10_; have NB299_311 := n11_; have NB311_299 := n12_; clear n0_ n1_ n2_ n3_ n4_ n5_ n6_ n7_ n8_ n9_ n10_ n11_ n12_; clear hb hbox hg; have hnb20 := NB311_299.out; have hnc20 := NB299_311.out; have hcz21_0 : w19.cell? ⟨gb311, 0, none⟩ = some (.int .i64 0) := (blk_cell BK311.out 0).trans rfl; have hcz21_1 : w19.cell? ⟨gb311, 1, none⟩ = some (.int .i64 0) := (blk_cell BK311.out 1).trans rfl; have hcz21_2 : w19.cell? ⟨gb311, 2, none⟩ = some (.int .u64 0) := (blk_cell BK311.out 2).trans rfl; have hcz21_3 : w19.cell? ⟨gb311, 3, none⟩ = some (.slice none 0 0) := (blk_cell BK311.out 3).trans rfl; have hcz21_4 : w19.cell? ⟨gb311, 4, none⟩ = some (.slice none 0 0) := (blk_cell BK311.out 4).trans rfl; have hfz21_0 := blk_frozen BK311.out 0; have hfz21_1 := blk_frozen BK311.out 1; have hfz21_2 := blk_frozen BK311.out 2; have hfz21_3 := blk_frozen BK311.out 3; have hfz21_4 := blk_frozen BK311.out 4; obtain ⟨Ao22, co22, eo22⟩ := Kd.R_slice HO305.out; subst eo22; obtain ⟨Ao23, co23, eo23⟩ := Kd.R_slice HO308.out; subst eo23) | ((with_reducible refine gate_store (t := 33) (p := 7) rfl ?_); refine store_event (t := 33) (p := 7) (v := ?vo_w24) (w1 := (((((w19.setCell ⟨gb311, 0, none⟩ (.int .i64 t300)).setCell ⟨gb311, 1, none⟩ (.int .i64 t301)).setCell ⟨gb311, 2, none⟩ (.int .u64 t302)).setCell ⟨gb311, 3, none⟩ (.slice Ao22 t303.length co22)).setCell ⟨gb311, 4, none⟩ (.slice Ao23 t306.length co23))) ?hg ?ho ?hn ?hr ?_; (case ho => rfl); (case hg => rfl); (case hn => rfl); (case hr => first | (go_simp; done) | (go_simp; rfl)); intro w24 hw; have n0_ : Aside0 (Kd.V (Kd.int .u8) 5 w24 w.heap.size (fun k_ => some k_ ≠ (.slice Ao12 t285.length co12 : Value).ownBlock ∧ some k_ ≠ (.slice Ao16 t291.length co16 : Value).ownBlock ∧ some k_ ≠ (.slice Ao17 t294.length co17 : Value).ownBlock ∧ some k_ ≠ (.slice Ao22 t303.length co22 : Value).ownBlock ∧ some k_ ≠ (.slice Ao23 t306.length co23 : Value).ownBlock ∧ k_ ≠ gb299 ∧ k_ ≠ gb311) (.slice Ao10 t282.length co10) t282) := ⟨(by rw [hw]; exact (by (with_reducible repeat (first | apply Kd.V_alloc | apply Kd.V_drewN | apply Kd.V_drew)); exact Kd.V_mono (Kd.V_far (p := ⟨gb311, 4, none⟩) (Kd.V_far (p := ⟨gb311, 3, none⟩) (Kd.V_far (p := ⟨gb311, 2, none⟩) (Kd.V_far (p := ⟨gb311, 1, none⟩) (Kd.V_far (p := ⟨gb311, 0, none⟩) (Kd.V_mono HO284.out (fun k_ hk => (⟨hk, hk.2⟩ : _ ∧ k_ ≠ gb311))) (fun _ hk => hk.2) (.int .i64 t300)) (fun _ hk => hk.2) (.int .i64 t301)) (fun _ hk => hk.2) (.int .u64 t302)) (fun _ hk => hk.2) (.slice Ao22 t303.length co22)) (fun _ hk => hk.2) (.slice Ao23 t306.length co23)) (fun _ hk => ⟨hk.1.1.1.1.1.1.1.2, ⟨hk.1.1.1.1.1.1.2, ⟨hk.1.1.1.1.1.2, ⟨hk.1.1.1.2, ⟨hk.1.1.2, ⟨hk.1.1.1.1.2, hk.1.2⟩⟩⟩⟩⟩⟩)))⟩; have n1_ : Aside0 (Kd.R (Kd.int .u8) 5 w24 w.heap.size (fun k_ => some k_ ≠ (.slice Ao16 t291.length co16 : Value).ownBlock ∧ some k_ ≠ (.slice Ao17 t294.length co17 : Value).ownBlock ∧ some k_ ≠ (.slice Ao22 t303.length co22 : Value).ownBlock ∧ some k_ ≠ (.slice Ao23 t306.length co23 : Value).ownBlock) (.slice Ao12 t285.length co12) t285) := ⟨(by rw [hw]; exact (by (with_reducible repeat (first | apply Kd.R_alloc | apply Kd.R_drewN | apply Kd.R_drew)); exact Kd.R_mono (Kd.R_far (p := ⟨gb311, 4, none⟩) (Kd.R_far (p := ⟨gb311, 3, none⟩) (Kd.R_far (p := ⟨gb311, 2, none⟩) (Kd.R_far (p := ⟨gb311, 1, none⟩) (Kd.R_far (p := ⟨gb311, 0, none⟩) (Kd.R_types HO287.out BK311.out (by decide)) (fun _ hk => hk.2) (.int .i64 t300)) (fun _ hk => hk.2) (.int .i64 t301)) (fun _ hk => hk.2) (.int .u64 t302)) (fun _ hk => hk.2) (.slice Ao22 t303.length co22)) (fun _ hk => hk.2) (.slice Ao23 t306.length co23)) (fun _ hk => ⟨hk.1.1.1.1.2, ⟨hk.1.1.1.2, ⟨hk.1.1.2, hk.1.2⟩⟩⟩)))⟩; have n2_ : Aside0 (Kd.R (Kd.int .u8) 5 w24 w.heap.size (fun k_ => some k_ ≠ (.slice Ao12 t285.length co12 : Value).ownBlock ∧ some k_ ≠ (.slice Ao17 t294.length co17 : Value).ownBlock ∧ some k_ ≠ (.slice Ao22 t303.length co22 : Value).ownBlock ∧ some k_ ≠ (.slice Ao23 t306.length co23 : Value).ownBlock) (.slice Ao16 t291.length co16) t291) := ⟨(by rw [hw]; exact (by (with_reducible repeat (first | apply Kd.R_alloc | apply Kd.R_drewN | apply Kd.R_drew)); exact Kd.R_mono (Kd.R_far (p := ⟨gb311, 4, none⟩) (Kd.R_far (p := ⟨gb311, 3, none⟩) (Kd.R_far (p := ⟨gb311, 2, none⟩) (Kd.R_far (p := ⟨gb311, 1, none⟩) (Kd.R_far (p := ⟨gb311, 0, none⟩) (Kd.R_types HO293.out BK311.out (by decide)) (fun _ hk => hk.2) (.int .i64 t300)) (fun _ hk => hk.2) (.int .i64 t301)) (fun _ hk => hk.2) (.int .u64 t302)) (fun _ hk => hk.2) (.slice Ao22 t303.length co22)) (fun _ hk => hk.2) (.slice Ao23 t306.length co23)) (fun _ hk => ⟨hk.1.1.1.2, ⟨hk.1.1.1.1, ⟨hk.1.1.2, hk.1.2⟩⟩⟩)))⟩; have n3_ : Aside0 (Kd.R (Kd.int .u8) 5 w24 w.heap.size (fun k_ => some k_ ≠ (.slice Ao12 t285.length co12 : Value).ownBlock ∧ some k_ ≠ (.slice Ao16 t291.length co16 : Value).ownBlock ∧ some k_ ≠ (.slice Ao22 t303.length co22 : Value).ownBlock ∧ some k_ ≠ (.slice Ao23 t306.length co23 : Value).ownBlock) (.slice Ao17 t294.length co17) t294) := ⟨(by rw [hw]; exact (by (with_reducible repeat (first | apply Kd.R_alloc | apply Kd.R_drewN | apply Kd.R_drew)); exact Kd.R_mono (Kd.R_far (p := ⟨gb311, 4, none⟩) (Kd.R_far (p := ⟨gb311, 3, none⟩) (Kd.R_far (p := ⟨gb311, 2, none⟩) (Kd.R_far (p := ⟨gb311, 1, none⟩) (Kd.R_far (p := ⟨gb311, 0, none⟩) (Kd.R_types HO296.out BK311.out (by decide)) (fun _ hk => hk.2) (.int .i64 t300)) (fun _ hk => hk.2) (.int .i64 t301)) (fun _ hk => hk.2) (.int .u64 t302)) (fun _ hk => hk.2) (.slice Ao22 t303.length co22)) (fun _ hk => hk.2) (.slice Ao23 t306.length co23)) (fun _ hk => ⟨hk.1.1.1.2, ⟨hk.1.1.1.1, ⟨hk.1.1.2, hk.1.2⟩⟩⟩)))⟩; have n4_ : Aside0 (Kd.R (Kd.int .u8) 5 w24 w.heap.size (fun k_ => some k_ ≠ (.slice Ao12 t285.length co12 : Value).ownBlock ∧ some k_ ≠ (.slice Ao16 t291.length co16 : Value).ownBlock ∧ some k_ ≠ (.slice Ao17 t294.length co17 : Value).ownBlock ∧ some k_ ≠ (.slice Ao23 t306.length co23 : Value).ownBlock) (.slice Ao22 t303.length co22) t303) := ⟨(by rw [hw]; exact (by (with_reducible repeat (first | apply Kd.R_alloc | apply Kd.R_drewN | apply Kd.R_drew)); exact Kd.R_mono (Kd.R_far (p := ⟨gb311, 4, none⟩) (Kd.R_far (p := ⟨gb311, 3, none⟩) (Kd.R_far (p := ⟨gb311, 2, none⟩) (Kd.R_far (p := ⟨gb311, 1, none⟩) (Kd.R_far (p := ⟨gb311, 0, none⟩) (Kd.R_types HO305.out BK311.out (by decide)) (fun _ hk => hk.2) (.int .i64 t300)) (fun _ hk => hk.2) (.int .i64 t301)) (fun _ hk => hk.2) (.int .u64 t302)) (fun _ hk => hk.2) (.slice Ao22 t303.length co22)) (fun _ hk => hk.2) (.slice Ao23 t306.length co23)) (fun _ hk => ⟨hk.1.1.1.2, ⟨hk.1.1.2, ⟨hk.1.2, hk.1.1.1.1⟩⟩⟩)))⟩; have n5_ : Aside0 (Kd.R (Kd.int .u8) 5 w24 w.heap.size (fun k_ => some k_ ≠ (.slice Ao12 t285.length co12 : Value).ownBlock ∧ some k_ ≠ (.slice Ao16 t291.length co16 : Value).ownBlock ∧ some k_ ≠ (.slice Ao17 t294.length co17 : Value).ownBlock ∧ some k_ ≠ (.slice Ao22 t303.length co22 : Value).ownBlock) (.slice Ao23 t306.length co23) t306) := ⟨(by rw [hw]; exact (by (with_reducible repeat (first | apply Kd.R_alloc | apply Kd.R_drewN | apply Kd.R_drew)); exact Kd.R_mono (Kd.R_far (p := ⟨gb311, 4, none⟩) (Kd.R_far (p := ⟨gb311, 3, none⟩) (Kd.R_far (p := ⟨gb311, 2, none⟩) (Kd.R_far (p := ⟨gb311, 1, none⟩) (Kd.R_far (p := ⟨gb311, 0, none⟩) (Kd.R_types HO308.out BK311.out (by decide)) (fun _ hk => hk.2) (.int .i64 t300)) (fun _ hk => hk.2) (.int .i64 t301)) (fun _ hk => hk.2) (.int .u64 t302)) (fun _ hk => hk.2) (.slice Ao22 t303.length co22)) (fun _ hk => hk.2) (.slice Ao23 t306.length co23)) (fun _ hk => ⟨hk.1.1.1.2, ⟨hk.1.1.2, ⟨hk.1.2, hk.1.1.1.1⟩⟩⟩)))⟩; have n6_ : Aside0 (w24.heap[gb299]? = some (.cells #[.int .i64 t288, .int .i64 t289, .int .u64 t290, .slice Ao16 t291.length co16, .slice Ao17 t294.length co17] 33 (0, 0))) := ⟨(by rw [hw]; exact (by (with_reducible repeat (first | refine blk_drewN ?_ _ | refine blk_drew ?_ | refine blk_alloc ?_ _)); refine blk_far ?_ NB299_311.out _; (with_reducible repeat (first | refine blk_drewN ?_ _ | refine blk_drew ?_ | refine blk_alloc ?_ _)); refine blk_far ?_ NB299_311.out _; (with_reducible repeat (first | refine blk_drewN ?_ _ | refine blk_drew ?_ | refine blk_alloc ?_ _)); refine blk_far ?_ NB299_311.out _; (with_reducible repeat (first | refine blk_drewN ?_ _ | refine blk_drew ?_ | refine blk_alloc ?_ _)); refine blk_far ?_ NB299_311.out _; (with_reducible repeat (first | refine blk_drewN ?_ _ | refine blk_drew ?_ | refine blk_alloc ?_ _)); refine blk_far ?_ NB299_311.out _; (with_reducible repeat (first | refine blk_drewN ?_ _ | refine blk_drew ?_ | refine blk_alloc ?_ _)); exact BK299.out))⟩; have n7_ : Aside0 (w24.heap[gb311]? = some (.cells #[.int .i64 t300, .int .i64 t301, .int .u64 t302, .slice Ao22 t303.length co22, .slice Ao23 t306.length co23] 33 (0, 0))) := ⟨(by rw [hw]; exact (by (with_reducible repeat (first | refine blk_drewN ?_ _ | refine blk_drew ?_ | refine blk_alloc ?_ _)); refine blk_put (cs := #[.int .i64 t300, .int .i64 t301, .int .u64 t302, .slice Ao22 t303.length co22, .slice none 0 0]) ?_ 4 _ rfl; (with_reducible repeat (first | refine blk_drewN ?_ _ | refine blk_drew ?_ | refine blk_alloc ?_ _)); refine blk_put (cs := #[.int .i64 t300, .int .i64 t301, .int .u64 t302, .slice none 0 0, .slice none 0 0]) ?_ 3 _ rfl; (with_reducible repeat (first | refine blk_drewN ?_ _ | refine blk_drew ?_ | refine blk_alloc ?_ _)); refine blk_put (cs := #[.int .i64 t300, .int .i64 t301, .int .u64 0, .slice none 0 0, .slice none 0 0]) ?_ 2 _ rfl; (with_reducible repeat (first | refine blk_drewN ?_ _ | refine blk_drew ?_ | refine blk_alloc ?_ _)); refine blk_put (cs := #[.int .i64 t300, .int .i64 0, .int .u64 0, .slice none 0 0, .slice none 0 0]) ?_ 1 _ rfl; (with_reducible repeat (first | refine blk_drewN ?_ _ | refine blk_drew ?_ | refine blk_alloc ?_ _)); refine blk_put (cs := #[.int .i64 0, .int .i64 0, .int .u64 0, .slice none 0 0, .slice none 0 0]) ?_ 0 _ rfl; (with_reducible repeat (first | refine blk_drewN ?_ _ | refine blk_drew ?_ | refine blk_alloc ?_ _)); exact BK311.out))⟩; have n8_ : Aside0 (Below w.heap.size w w24) := ⟨(by rw [hw]; exact (by repeat (first | (with_reducible first | exact HB.out | apply below_alloc | apply pw_below_drewN | apply below_drew1 | refine below_set ?_ GE299.out | refine below_set ?_ GE311.out) | exact HB.out)))⟩; clear hw; clear HO284; clear HO287; clear HO293; clear HO296; clear HO305; clear HO308; clear BK299; clear BK311; clear HB; have HO284 := n0_; have HO287 := n1_; have HO293 := n2_; have HO296 := n3_; have HO305 := n4_; have HO308 := n5_; have BK299 := n6_; have BK311 := n7_; have HB := n8_; clear n0_ n1_ n2_ n3_ n4_ n5_ n6_ n7_ n8_) | ((with_reducible refine gate_callee (f := 26) rfl ?_); refine goesL_ (some 33) rfl rfl Try.func26 (by kernel_rfl) rfl #[.slice Ao12 t285.length co12] rfl (by (try simp only [List.map_toArray, List.map_cons, List.map_nil]); first | done | rfl | (simp only [List.length_drop, List.length_take]; rfl)) ?_; (with_reducible refine (wire_Split.calls k (fun k_ => some k_ = (.slice Ao12 t285.length co12 : Value).ownBlock) _ _ t285 t312 t315 _ ?side1 A6.out).mono ?_); (case side1 => exact Kd.R_V (Kd.R_tight rfl (Kd.R_types (Kd.R_types (HO287.out) BK299.out (by decide)) BK311.out (by decide)))); rintro e w25 ⟨v313, rfl, ho0, hb⟩; refine ⟨_, rfl, ?_⟩; have n0_ := Aside0.mk (Kd.V_elder' (by (with_reducible repeat (first | apply Kd.V_alloc | apply Kd.V_drewN | apply Kd.V_drew)); exact HO284.out) (Kd.S_base ho0) hb); have n1_ := Aside0.mk (Kd.R_below (by (with_reducible repeat (first | apply Kd.R_alloc | apply Kd.R_drewN | apply Kd.R_drew)); exact HO287.out) hb); have n2_ := Aside0.mk (Kd.R_below (by (with_reducible repeat (first | apply Kd.R_alloc | apply Kd.R_drewN | apply Kd.R_drew)); exact HO293.out) hb); have n3_ := Aside0.mk (Kd.R_below (by (with_reducible repeat (first | apply Kd.R_alloc | apply Kd.R_drewN | apply Kd.R_drew)); exact HO296.out) hb); have n4_ := Aside0.mk (Kd.R_below (by (with_reducible repeat (first | apply Kd.R_alloc | apply Kd.R_drewN | apply Kd.R_drew)); exact HO305.out) hb); have n5_ := Aside0.mk (Kd.R_below (by (with_reducible repeat (first | apply Kd.R_alloc | apply Kd.R_drewN | apply Kd.R_drew)); exact HO308.out) hb); have n6_ := Aside0.mk (Kd.S_lower (Kd.S_newB (Kd.S_newB (Kd.S_new' (Kd.S_new' (Kd.S_new' (Kd.S_new' (Kd.S_new' (Kd.S_mono (ok' := fun k_ => True) ho0 (fun _ hk_ => trivial)) (Kd.R_lt (by (with_reducible repeat (first | apply Kd.R_alloc | apply Kd.R_drewN | apply Kd.R_drew)); exact HO287.out))) (Kd.R_lt (by (with_reducible repeat (first | apply Kd.R_alloc | apply Kd.R_drewN | apply Kd.R_drew)); exact HO293.out))) (Kd.R_lt (by (with_reducible repeat (first | apply Kd.R_alloc | apply Kd.R_drewN | apply Kd.R_drew)); exact HO296.out))) (Kd.R_lt (by (with_reducible repeat (first | apply Kd.R_alloc | apply Kd.R_drewN | apply Kd.R_drew)); exact HO305.out))) (Kd.R_lt (by (with_reducible repeat (first | apply Kd.R_alloc | apply Kd.R_drewN | apply Kd.R_drew)); exact HO308.out))) (g := gb299) (o := .cells #[.int .i64 t288, .int .i64 t289, .int .u64 t290, .slice Ao16 t291.length co16, .slice Ao17 t294.length co17] 33 (0, 0)) (by (with_reducible repeat (first | refine blk_drewN ?_ _ | refine blk_drew ?_ | refine blk_alloc ?_ _)); exact BK299.out)) (g := gb311) (o := .cells #[.int .i64 t300, .int .i64 t301, .int .u64 t302, .slice Ao22 t303.length co22, .slice Ao23 t306.length co23] 33 (0, 0)) (by (with_reducible repeat (first | refine blk_drewN ?_ _ | refine blk_drew ?_ | refine blk_alloc ?_ _)); exact BK311.out)) (below_size (by repeat (first | (with_reducible first | exact HB.out | apply below_alloc | apply pw_below_drewN | apply below_drew1 | refine below_set ?_ GE299.out | refine below_set ?_ GE311.out) | exact HB.out)))); have n7_ := Aside0.mk (blk_below (g := gb299) (o := .cells #[.int .i64 t288, .int .i64 t289, .int .u64 t290, .slice Ao16 t291.length co16, .slice Ao17 t294.length co17] 33 (0, 0)) (by (with_reducible repeat (first | refine blk_drewN ?_ _ | refine blk_drew ?_ | refine blk_alloc ?_ _)); exact BK299.out) hb); have n8_ := Aside0.mk (blk_below (g := gb311) (o := .cells #[.int .i64 t300, .int .i64 t301, .int .u64 t302, .slice Ao22 t303.length co22, .slice Ao23 t306.length co23] 33 (0, 0)) (by (with_reducible repeat (first | refine blk_drewN ?_ _ | refine blk_drew ?_ | refine blk_alloc ?_ _)); exact BK311.out) hb); have n9_ := Aside0.mk (below_step (by repeat (first | (with_reducible first | exact HB.out | apply below_alloc | apply pw_below_drewN | apply below_drew1 | refine below_set ?_ GE299.out | refine below_set ?_ GE311.out) | exact HB.out)) hb); clear HO284; clear HO287; clear HO293; clear HO296; clear HO305; clear HO308; clear BK299; clear BK311; clear HB; have HO284 := n0_; have HO287 := n1_; have HO293 := n2_; have HO296 := n3_; have HO305 := n4_; have HO308 := n5_; have HO314 := n6_; have BK299 := n7_; have BK311 := n8_; have HB := n9_; clear n0_ n1_ n2_ n3_ n4_ n5_ n6_ n7_ n8_ n9_; (try clear hb); (try clear hb2); (try clear hk); (try clear hi); (try clear ho0)) | ((with_reducible refine gate_callee (f := 27) rfl ?_); refine goesL_ (some 38) rfl rfl Try.func27 (by kernel_rfl) rfl #[.slice Ao10 t282.length co10] rfl (by (try simp only [List.map_toArray, List.map_cons, List.map_nil]); first | done | rfl | (simp only [List.length_drop, List.length_take]; rfl)) ?_; (with_reducible refine (signetryref01_Split.calls k (fun k_ => ((some k_ ≠ (.slice Ao12 t285.length co12 : Value).ownBlock ∧ (some k_ ≠ (.slice Ao16 t291.length co16 : Value).ownBlock ∧ (some k_ ≠ (.slice Ao17 t294.length co17 : Value).ownBlock ∧ (some k_ ≠ (.slice Ao22 t303.length co22 : Value).ownBlock ∧ (some k_ ≠ (.slice Ao23 t306.length co23 : Value).ownBlock ∧ (k_ ≠ gb299 ∧ k_ ≠ gb311)))))) ∧ some k_ ≠ (v313 : Value).ownBlock)) _ _ t282 t316 t319 _ ?side1 A7.out).mono ?_); (case side1 => exact HO284.out); rintro e w26 ⟨v317, rfl, ho0, hb⟩; refine ⟨_, rfl, ?_⟩; have n0_ := Aside0.mk (Kd.V_elder' (by (with_reducible repeat (first | apply Kd.V_alloc | apply Kd.V_drewN | apply Kd.V_drew)); exact HO284.out) (Kd.S_base ho0) hb); have n1_ := Aside0.mk (Kd.R_below (by (with_reducible repeat (first | apply Kd.R_alloc | apply Kd.R_drewN | apply Kd.R_drew)); exact HO287.out) hb); have n2_ := Aside0.mk (Kd.R_below (by (with_reducible repeat (first | apply Kd.R_alloc | apply Kd.R_drewN | apply Kd.R_drew)); exact HO293.out) hb); have n3_ := Aside0.mk (Kd.R_below (by (with_reducible repeat (first | apply Kd.R_alloc | apply Kd.R_drewN | apply Kd.R_drew)); exact HO296.out) hb); have n4_ := Aside0.mk (Kd.R_below (by (with_reducible repeat (first | apply Kd.R_alloc | apply Kd.R_drewN | apply Kd.R_drew)); exact HO305.out) hb); have n5_ := Aside0.mk (Kd.R_below (by (with_reducible repeat (first | apply Kd.R_alloc | apply Kd.R_drewN | apply Kd.R_drew)); exact HO308.out) hb); have n6_ := Aside0.mk (Kd.S_elder' (by (with_reducible repeat (first | apply Kd.S_alloc | apply Kd.S_drewN | apply Kd.S_drew)); exact HO314.out) (Kd.S_base ho0) hb); have n7_ := Aside0.mk (Kd.S_lower (Kd.S_newB (Kd.S_newB (Kd.S_new' (Kd.S_new' (Kd.S_new' (Kd.S_new' (Kd.S_new' (Kd.S_new' (Kd.S_mono (ok' := fun k_ => True) ho0 (fun _ hk_ => trivial)) (Kd.R_lt (by (with_reducible repeat (first | apply Kd.R_alloc | apply Kd.R_drewN | apply Kd.R_drew)); exact HO287.out))) (Kd.R_lt (by (with_reducible repeat (first | apply Kd.R_alloc | apply Kd.R_drewN | apply Kd.R_drew)); exact HO293.out))) (Kd.R_lt (by (with_reducible repeat (first | apply Kd.R_alloc | apply Kd.R_drewN | apply Kd.R_drew)); exact HO296.out))) (Kd.R_lt (by (with_reducible repeat (first | apply Kd.R_alloc | apply Kd.R_drewN | apply Kd.R_drew)); exact HO305.out))) (Kd.R_lt (by (with_reducible repeat (first | apply Kd.R_alloc | apply Kd.R_drewN | apply Kd.R_drew)); exact HO308.out))) (Kd.S_lt (by (with_reducible repeat (first | apply Kd.S_alloc | apply Kd.S_drewN | apply Kd.S_drew)); exact HO314.out))) (g := gb299) (o := .cells #[.int .i64 t288, .int .i64 t289, .int .u64 t290, .slice Ao16 t291.length co16, .slice Ao17 t294.length co17] 33 (0, 0)) (by (with_reducible repeat (first | refine blk_drewN ?_ _ | refine blk_drew ?_ | refine blk_alloc ?_ _)); exact BK299.out)) (g := gb311) (o := .cells #[.int .i64 t300, .int .i64 t301, .int .u64 t302, .slice Ao22 t303.length co22, .slice Ao23 t306.length co23] 33 (0, 0)) (by (with_reducible repeat (first | refine blk_drewN ?_ _ | refine blk_drew ?_ | refine blk_alloc ?_ _)); exact BK311.out)) (below_size (by repeat (first | (with_reducible first | exact HB.out | apply below_alloc | apply pw_below_drewN | apply below_drew1 | refine below_set ?_ GE299.out | refine below_set ?_ GE311.out) | exact HB.out)))); have n8_ := Aside0.mk (blk_below (g := gb299) (o := .cells #[.int .i64 t288, .int .i64 t289, .int .u64 t290, .slice Ao16 t291.length co16, .slice Ao17 t294.length co17] 33 (0, 0)) (by (with_reducible repeat (first | refine blk_drewN ?_ _ | refine blk_drew ?_ | refine blk_alloc ?_ _)); exact BK299.out) hb); have n9_ := Aside0.mk (blk_below (g := gb311) (o := .cells #[.int .i64 t300, .int .i64 t301, .int .u64 t302, .slice Ao22 t303.length co22, .slice Ao23 t306.length co23] 33 (0, 0)) (by (with_reducible repeat (first | refine blk_drewN ?_ _ | refine blk_drew ?_ | refine blk_alloc ?_ _)); exact BK311.out) hb); have n10_ := Aside0.mk (below_step (by repeat (first | (with_reducible first | exact HB.out | apply below_alloc | apply pw_below_drewN | apply below_drew1 | refine below_set ?_ GE299.out | refine below_set ?_ GE311.out) | exact HB.out)) hb); clear HO284; clear HO287; clear HO293; clear HO296; clear HO305; clear HO308; clear HO314; clear BK299; clear BK311; clear HB; have HO284 := n0_; have HO287 := n1_; have HO293 := n2_; have HO296 := n3_; have HO305 := n4_; have HO308 := n5_; have HO314 := n6_; have HO318 := n7_; have BK299 := n8_; have BK311 := n9_; have HB := n10_; clear n0_ n1_ n2_ n3_ n4_ n5_ n6_ n7_ n8_ n9_ n10_; (try clear hb); (try clear hb2); (try clear hk); (try clear hi); (try clear ho0)))
  (try simp only [Act.put, List.setIfInBounds_toArray, List.set_cons_zero, List.set_cons_succ])
  go_cut [65] (fun v65 wc => ∃ (kq : Nat) (x65_7 : Bool), v65 = .bool x65_7 ∧ Aside0 (signetrylaw01_WireReads.j0 kq t285 t312 t316 x65_7 t288 t289 t290 t291 t294 t300 t301 t302 t303 t306 = some r) ∧ Aside0 (kq ≤ k) ∧ Aside0 (Kd.R (Kd.int .u8) 5 wc w.heap.size (fun k_ => some k_ ≠ ((.slice Ao16 t291.length co16) : Value).ownBlock ∧ some k_ ≠ ((.slice Ao17 t294.length co17) : Value).ownBlock ∧ some k_ ≠ ((.slice Ao22 t303.length co22) : Value).ownBlock ∧ some k_ ≠ ((.slice Ao23 t306.length co23) : Value).ownBlock) (.slice Ao12 t285.length co12) t285) ∧ Aside0 (Kd.S k33 33 wc w.heap.size (fun k_ => some k_ ≠ ((.slice Ao12 t285.length co12) : Value).ownBlock ∧ some k_ ≠ (v317 : Value).ownBlock ∧ some k_ ≠ ((.slice Ao16 t291.length co16) : Value).ownBlock ∧ some k_ ≠ ((.slice Ao17 t294.length co17) : Value).ownBlock ∧ some k_ ≠ ((.slice Ao22 t303.length co22) : Value).ownBlock ∧ some k_ ≠ ((.slice Ao23 t306.length co23) : Value).ownBlock ∧ k_ ≠ gb299 ∧ k_ ≠ gb311) v313 t312) ∧ Aside0 (Kd.S k33 33 wc w.heap.size (fun k_ => some k_ ≠ ((.slice Ao12 t285.length co12) : Value).ownBlock ∧ some k_ ≠ (v313 : Value).ownBlock ∧ some k_ ≠ ((.slice Ao16 t291.length co16) : Value).ownBlock ∧ some k_ ≠ ((.slice Ao17 t294.length co17) : Value).ownBlock ∧ some k_ ≠ ((.slice Ao22 t303.length co22) : Value).ownBlock ∧ some k_ ≠ ((.slice Ao23 t306.length co23) : Value).ownBlock ∧ k_ ≠ gb299 ∧ k_ ≠ gb311) v317 t316) ∧ Aside0 (Kd.R (Kd.int .u8) 5 wc w.heap.size (fun k_ => some k_ ≠ ((.slice Ao12 t285.length co12) : Value).ownBlock ∧ some k_ ≠ ((.slice Ao17 t294.length co17) : Value).ownBlock ∧ some k_ ≠ ((.slice Ao22 t303.length co22) : Value).ownBlock ∧ some k_ ≠ ((.slice Ao23 t306.length co23) : Value).ownBlock) (.slice Ao16 t291.length co16) t291) ∧ Aside0 (Kd.R (Kd.int .u8) 5 wc w.heap.size (fun k_ => some k_ ≠ ((.slice Ao12 t285.length co12) : Value).ownBlock ∧ some k_ ≠ ((.slice Ao16 t291.length co16) : Value).ownBlock ∧ some k_ ≠ ((.slice Ao22 t303.length co22) : Value).ownBlock ∧ some k_ ≠ ((.slice Ao23 t306.length co23) : Value).ownBlock) (.slice Ao17 t294.length co17) t294) ∧ Aside0 (Kd.R (Kd.int .u8) 5 wc w.heap.size (fun k_ => some k_ ≠ ((.slice Ao12 t285.length co12) : Value).ownBlock ∧ some k_ ≠ ((.slice Ao16 t291.length co16) : Value).ownBlock ∧ some k_ ≠ ((.slice Ao17 t294.length co17) : Value).ownBlock ∧ some k_ ≠ ((.slice Ao23 t306.length co23) : Value).ownBlock) (.slice Ao22 t303.length co22) t303) ∧ Aside0 (Kd.R (Kd.int .u8) 5 wc w.heap.size (fun k_ => some k_ ≠ ((.slice Ao12 t285.length co12) : Value).ownBlock ∧ some k_ ≠ ((.slice Ao16 t291.length co16) : Value).ownBlock ∧ some k_ ≠ ((.slice Ao17 t294.length co17) : Value).ownBlock ∧ some k_ ≠ ((.slice Ao22 t303.length co22) : Value).ownBlock) (.slice Ao23 t306.length co23) t306) ∧ Aside0 (wc.heap[gb299]? = some (.cells #[.int .i64 t288, .int .i64 t289, .int .u64 t290, (.slice Ao16 t291.length co16), (.slice Ao17 t294.length co17)] 33 (0, 0))) ∧ Aside0 (wc.heap[gb311]? = some (.cells #[.int .i64 t300, .int .i64 t301, .int .u64 t302, (.slice Ao22 t303.length co22), (.slice Ao23 t306.length co23)] 33 (0, 0))) ∧ Aside0 (Below w.heap.size w wc))
  case first =>
    have H := HC8.out
    clear HC8
    replace H := Option.bind_eq_some_iff.mp H
    obtain ⟨t320, A270, H⟩ := H
    replace H : (if t320 = true then (if t297 = t309 then (if t298 = t310 then ((signetrylaw01_same.f k t312 t316).bind fun t321 => (if t321 = true then (signetrylaw01_WireReads.j0 k t285 t312 t316 (t315 != t319) t288 t289 t290 t291 t294 t300 t301 t302 t303 t306) else (signetrylaw01_WireReads.j0 k t285 t312 t316 true t288 t289 t290 t291 t294 t300 t301 t302 t303 t306))) else (signetrylaw01_WireReads.j0 k t285 t312 t316 true t288 t289 t290 t291 t294 t300 t301 t302 t303 t306)) else (signetrylaw01_WireReads.j0 k t285 t312 t316 true t288 t289 t290 t291 t294 t300 t301 t302 t303 t306)) else (signetrylaw01_WireReads.j0 k t285 t312 t316 true t288 t289 t290 t291 t294 t300 t301 t302 t303 t306)) = some r := H
    have A27 := Aside0.mk A270
    clear A270
    by_cases c28 : t320 = true
    · subst c28
      have H1 : (if t297 = t309 then (if t298 = t310 then ((signetrylaw01_same.f k t312 t316).bind fun t321 => (if t321 = true then (signetrylaw01_WireReads.j0 k t285 t312 t316 (t315 != t319) t288 t289 t290 t291 t294 t300 t301 t302 t303 t306) else (signetrylaw01_WireReads.j0 k t285 t312 t316 true t288 t289 t290 t291 t294 t300 t301 t302 t303 t306))) else (signetrylaw01_WireReads.j0 k t285 t312 t316 true t288 t289 t290 t291 t294 t300 t301 t302 t303 t306)) else (signetrylaw01_WireReads.j0 k t285 t312 t316 true t288 t289 t290 t291 t294 t300 t301 t302 t303 t306)) = some r := by rw [if_pos rfl] at H; exact H
      clear H
      have H := H1
      clear H1
      by_cases c29 : t297 = t309
      · rw [if_pos c29] at H
        have c29b0 : (t297 == t309) = true := beq_iff_eq.mpr c29
        have c29b1 : (t297 != t309) = false := bne_eq_false_iff_eq.mpr c29
        clear c29
        (first | rw [c29b0] | (simp only [i64_w, i32_w]; rw [c29b0]) | skip)
        by_cases c30 : t298 = t310
        · rw [if_pos c30] at H
          have c30b0 : (t298 == t310) = true := beq_iff_eq.mpr c30
          have c30b1 : (t298 != t310) = false := bne_eq_false_iff_eq.mpr c30
          clear c30
          replace H := Option.bind_eq_some_iff.mp H
          obtain ⟨t321, A310, H⟩ := H
          replace H : (if t321 = true then (signetrylaw01_WireReads.j0 k t285 t312 t316 (t315 != t319) t288 t289 t290 t291 t294 t300 t301 t302 t303 t306) else (signetrylaw01_WireReads.j0 k t285 t312 t316 true t288 t289 t290 t291 t294 t300 t301 t302 t303 t306)) = some r := H
          have A31 := Aside0.mk A310
          clear A310
          by_cases c32 : t321 = true
          · subst c32
            have H1 : (signetrylaw01_WireReads.j0 k t285 t312 t316 (t315 != t319) t288 t289 t290 t291 t294 t300 t301 t302 t303 t306) = some r := by rw [if_pos rfl] at H; exact H
            clear H
            have H := H1
            clear H1
            have H' := Aside0.mk H
            clear H
            have hnb33 := NB299_311.out
            have hnc33 := NB311_299.out
            have hcz34_0 : w26.cell? ⟨gb299, 0, none⟩ = some (.int .i64 t288) := (blk_cell BK299.out 0).trans rfl
            have hcz34_1 : w26.cell? ⟨gb299, 1, none⟩ = some (.int .i64 t289) := (blk_cell BK299.out 1).trans rfl
            have hcz34_2 : w26.cell? ⟨gb299, 2, none⟩ = some (.int .u64 t290) := (blk_cell BK299.out 2).trans rfl
            have hcz34_3 : w26.cell? ⟨gb299, 3, none⟩ = some (.slice Ao16 t291.length co16) := (blk_cell BK299.out 3).trans rfl
            have hcz34_4 : w26.cell? ⟨gb299, 4, none⟩ = some (.slice Ao17 t294.length co17) := (blk_cell BK299.out 4).trans rfl
            have hfz34_0 := blk_frozen BK299.out 0
            have hfz34_1 := blk_frozen BK299.out 1
            have hfz34_2 := blk_frozen BK299.out 2
            have hfz34_3 := blk_frozen BK299.out 3
            have hfz34_4 := blk_frozen BK299.out 4
            have hcz35_0 : w26.cell? ⟨gb311, 0, none⟩ = some (.int .i64 t300) := (blk_cell BK311.out 0).trans rfl
            have hcz35_1 : w26.cell? ⟨gb311, 1, none⟩ = some (.int .i64 t301) := (blk_cell BK311.out 1).trans rfl
            have hcz35_2 : w26.cell? ⟨gb311, 2, none⟩ = some (.int .u64 t302) := (blk_cell BK311.out 2).trans rfl
            have hcz35_3 : w26.cell? ⟨gb311, 3, none⟩ = some (.slice Ao22 t303.length co22) := (blk_cell BK311.out 3).trans rfl
            have hcz35_4 : w26.cell? ⟨gb311, 4, none⟩ = some (.slice Ao23 t306.length co23) := (blk_cell BK311.out 4).trans rfl
            have hfz35_0 := blk_frozen BK311.out 0
            have hfz35_1 := blk_frozen BK311.out 1
            have hfz35_2 := blk_frozen BK311.out 2
            have hfz35_3 := blk_frozen BK311.out 3
            have hfz35_4 := blk_frozen BK311.out 4
            go_wp2_with (first | ((with_reducible refine gate_callee (f := 28) rfl ?_); refine goesL_ (some 43) rfl rfl Try.func28 (by kernel_rfl) rfl #[.agg #[.int .i64 t288, .int .i64 t289, .int .u64 t290, .slice Ao16 t291.length co16, .slice Ao17 t294.length co17], .agg #[.int .i64 t300, .int .i64 t301, .int .u64 t302, .slice Ao22 t303.length co22, .slice Ao23 t306.length co23]] rfl (by (try simp only [List.map_toArray, List.map_cons, List.map_nil]); first | done | rfl | (simp only [List.length_drop, List.length_take]; rfl)) ?_; (with_reducible refine (signetryref01_Same.calls t288 t289 t290 _ _ t291 _ _ t294 t300 t301 t302 _ _ t303 _ _ t306 true _ ?side1 ?side2 ?side3 ?side4 ?side5 ?side6 ?side7 ?side8 A27.out).mono ?_); (case side1 => repeat (first | exact (Kd.R_reads' HO293.out).2.2 | (with_reducible refine Kd.C_alloc ?_ _) | (with_reducible refine Kd.C_drewN ?_ _) | (with_reducible refine Kd.C_drew ?_))); (case side2 => exact (Kd.R_reads' HO293.out).2.1); (case side3 => repeat (first | exact (Kd.R_reads' HO296.out).2.2 | (with_reducible refine Kd.C_alloc ?_ _) | (with_reducible refine Kd.C_drewN ?_ _) | (with_reducible refine Kd.C_drew ?_))); (case side4 => exact (Kd.R_reads' HO296.out).2.1); (case side5 => repeat (first | exact (Kd.R_reads' HO305.out).2.2 | (with_reducible refine Kd.C_alloc ?_ _) | (with_reducible refine Kd.C_drewN ?_ _) | (with_reducible refine Kd.C_drew ?_))); (case side6 => exact (Kd.R_reads' HO305.out).2.1); (case side7 => repeat (first | exact (Kd.R_reads' HO308.out).2.2 | (with_reducible refine Kd.C_alloc ?_ _) | (with_reducible refine Kd.C_drewN ?_ _) | (with_reducible refine Kd.C_drew ?_))); (case side8 => exact (Kd.R_reads' HO308.out).2.1); rintro e w36 ⟨rfl, hb⟩; refine ⟨_, rfl, ?_⟩; have n0_ := Aside0.mk (Kd.V_below (by (with_reducible repeat (first | apply Kd.V_alloc | apply Kd.V_drewN | apply Kd.V_drew)); exact HO284.out) hb); have n1_ := Aside0.mk (Kd.R_below (by (with_reducible repeat (first | apply Kd.R_alloc | apply Kd.R_drewN | apply Kd.R_drew)); exact HO287.out) hb); have n2_ := Aside0.mk (Kd.R_below (by (with_reducible repeat (first | apply Kd.R_alloc | apply Kd.R_drewN | apply Kd.R_drew)); exact HO293.out) hb); have n3_ := Aside0.mk (Kd.R_below (by (with_reducible repeat (first | apply Kd.R_alloc | apply Kd.R_drewN | apply Kd.R_drew)); exact HO296.out) hb); have n4_ := Aside0.mk (Kd.R_below (by (with_reducible repeat (first | apply Kd.R_alloc | apply Kd.R_drewN | apply Kd.R_drew)); exact HO305.out) hb); have n5_ := Aside0.mk (Kd.R_below (by (with_reducible repeat (first | apply Kd.R_alloc | apply Kd.R_drewN | apply Kd.R_drew)); exact HO308.out) hb); have n6_ := Aside0.mk (Kd.S_below (by (with_reducible repeat (first | apply Kd.S_alloc | apply Kd.S_drewN | apply Kd.S_drew)); exact HO314.out) hb); have n7_ := Aside0.mk (Kd.S_below (by (with_reducible repeat (first | apply Kd.S_alloc | apply Kd.S_drewN | apply Kd.S_drew)); exact HO318.out) hb); have n8_ := Aside0.mk (blk_below (g := gb299) (o := .cells #[.int .i64 t288, .int .i64 t289, .int .u64 t290, .slice Ao16 t291.length co16, .slice Ao17 t294.length co17] 33 (0, 0)) (by (with_reducible repeat (first | refine blk_drewN ?_ _ | refine blk_drew ?_ | refine blk_alloc ?_ _)); exact BK299.out) hb); have n9_ := Aside0.mk (blk_below (g := gb311) (o := .cells #[.int .i64 t300, .int .i64 t301, .int .u64 t302, .slice Ao22 t303.length co22, .slice Ao23 t306.length co23] 33 (0, 0)) (by (with_reducible repeat (first | refine blk_drewN ?_ _ | refine blk_drew ?_ | refine blk_alloc ?_ _)); exact BK311.out) hb); have n10_ := Aside0.mk (below_step (by repeat (first | (with_reducible first | exact HB.out | apply below_alloc | apply pw_below_drewN | apply below_drew1 | refine below_set ?_ GE299.out | refine below_set ?_ GE311.out) | exact HB.out)) hb); clear HO284; clear HO287; clear HO293; clear HO296; clear HO305; clear HO308; clear HO314; clear HO318; clear BK299; clear BK311; clear HB; have HO284 := n0_; have HO287 := n1_; have HO293 := n2_; have HO296 := n3_; have HO305 := n4_; have HO308 := n5_; have HO314 := n6_; have HO318 := n7_; have BK299 := n8_; have BK311 := n9_; have HB := n10_; clear n0_ n1_ n2_ n3_ n4_ n5_ n6_ n7_ n8_ n9_ n10_; (try clear hb); (try clear hb2); (try clear hk); (try clear hi); obtain ⟨Ao37, co37, eo37⟩ := Kd.S_slice HO314.out; subst eo37; obtain ⟨Ao38, co38, eo38⟩ := Kd.S_slice HO318.out; subst eo38) | (go_at_call 29; (with_reducible refine (signetrylaw01_same.calls k _ _ t312 _ _ t316 true _ ?side1 ?side2 ?side3 ?side4 A31.out).mono ?_); (case side1 => repeat (first | exact (Kd.S_reads' HO314.out).2.2 | (with_reducible refine Kd.C_alloc ?_ _) | (with_reducible refine Kd.C_drewN ?_ _) | (with_reducible refine Kd.C_drew ?_))); (case side2 => exact (Kd.S_reads' HO314.out).2.1); (case side3 => repeat (first | exact (Kd.S_reads' HO318.out).2.2 | (with_reducible refine Kd.C_alloc ?_ _) | (with_reducible refine Kd.C_drewN ?_ _) | (with_reducible refine Kd.C_drew ?_))); (case side4 => exact (Kd.S_reads' HO318.out).2.1); rintro e w39 ⟨rfl, hb⟩; have n0_ := Aside0.mk (Kd.V_below (by (with_reducible repeat (first | apply Kd.V_alloc | apply Kd.V_drewN | apply Kd.V_drew)); exact HO284.out) hb); have n1_ := Aside0.mk (Kd.R_below (by (with_reducible repeat (first | apply Kd.R_alloc | apply Kd.R_drewN | apply Kd.R_drew)); exact HO287.out) hb); have n2_ := Aside0.mk (Kd.R_below (by (with_reducible repeat (first | apply Kd.R_alloc | apply Kd.R_drewN | apply Kd.R_drew)); exact HO293.out) hb); have n3_ := Aside0.mk (Kd.R_below (by (with_reducible repeat (first | apply Kd.R_alloc | apply Kd.R_drewN | apply Kd.R_drew)); exact HO296.out) hb); have n4_ := Aside0.mk (Kd.R_below (by (with_reducible repeat (first | apply Kd.R_alloc | apply Kd.R_drewN | apply Kd.R_drew)); exact HO305.out) hb); have n5_ := Aside0.mk (Kd.R_below (by (with_reducible repeat (first | apply Kd.R_alloc | apply Kd.R_drewN | apply Kd.R_drew)); exact HO308.out) hb); have n6_ := Aside0.mk (Kd.S_below (by (with_reducible repeat (first | apply Kd.S_alloc | apply Kd.S_drewN | apply Kd.S_drew)); exact HO314.out) hb); have n7_ := Aside0.mk (Kd.S_below (by (with_reducible repeat (first | apply Kd.S_alloc | apply Kd.S_drewN | apply Kd.S_drew)); exact HO318.out) hb); have n8_ := Aside0.mk (blk_below (g := gb299) (o := .cells #[.int .i64 t288, .int .i64 t289, .int .u64 t290, .slice Ao16 t291.length co16, .slice Ao17 t294.length co17] 33 (0, 0)) (by (with_reducible repeat (first | refine blk_drewN ?_ _ | refine blk_drew ?_ | refine blk_alloc ?_ _)); exact BK299.out) hb); have n9_ := Aside0.mk (blk_below (g := gb311) (o := .cells #[.int .i64 t300, .int .i64 t301, .int .u64 t302, .slice Ao22 t303.length co22, .slice Ao23 t306.length co23] 33 (0, 0)) (by (with_reducible repeat (first | refine blk_drewN ?_ _ | refine blk_drew ?_ | refine blk_alloc ?_ _)); exact BK311.out) hb); have n10_ := Aside0.mk (below_step (by repeat (first | (with_reducible first | exact HB.out | apply below_alloc | apply pw_below_drewN | apply below_drew1 | refine below_set ?_ GE299.out | refine below_set ?_ GE311.out) | exact HB.out)) hb); clear HO284; clear HO287; clear HO293; clear HO296; clear HO305; clear HO308; clear HO314; clear HO318; clear BK299; clear BK311; clear HB; have HO284 := n0_; have HO287 := n1_; have HO293 := n2_; have HO296 := n3_; have HO305 := n4_; have HO308 := n5_; have HO314 := n6_; have HO318 := n7_; have BK299 := n8_; have BK311 := n9_; have HB := n10_; clear n0_ n1_ n2_ n3_ n4_ n5_ n6_ n7_ n8_ n9_ n10_; (try clear hb); (try clear hb2); (try clear hk); (try clear hi)))
            go_meet
            case rel => exact ⟨_, ((t315 != t319)), (by first | rfl | (simp; done) | (simp [*]; done)), H', ⟨by first | omega | exact Nat.le_refl _⟩, ⟨by (with_reducible repeat (first | apply Kd.R_alloc | apply Kd.R_drewN | apply Kd.R_drew)); exact HO287.out⟩, ⟨by (with_reducible repeat (first | apply Kd.S_alloc | apply Kd.S_drewN | apply Kd.S_drew)); exact Kd.S_mono HO314.out (fun _ hk => ⟨hk.1.1.1.1.1.1.1.2, ⟨hk.2, ⟨hk.1.1.1.1.1.1.2, ⟨hk.1.1.1.1.1.2, ⟨hk.1.1.1.1.2, ⟨hk.1.1.1.2, ⟨hk.1.1.2, hk.1.2⟩⟩⟩⟩⟩⟩⟩)⟩, ⟨by (with_reducible repeat (first | apply Kd.S_alloc | apply Kd.S_drewN | apply Kd.S_drew)); exact Kd.S_mono HO318.out (fun _ hk => ⟨hk.1.1.1.1.1.1.1.2, ⟨hk.1.1.2, ⟨hk.1.1.1.1.1.1.2, ⟨hk.1.1.1.1.1.2, ⟨hk.1.1.1.1.2, ⟨hk.1.1.1.2, ⟨hk.1.2, hk.2⟩⟩⟩⟩⟩⟩⟩)⟩, ⟨by (with_reducible repeat (first | apply Kd.R_alloc | apply Kd.R_drewN | apply Kd.R_drew)); exact HO293.out⟩, ⟨by (with_reducible repeat (first | apply Kd.R_alloc | apply Kd.R_drewN | apply Kd.R_drew)); exact HO296.out⟩, ⟨by (with_reducible repeat (first | apply Kd.R_alloc | apply Kd.R_drewN | apply Kd.R_drew)); exact HO305.out⟩, ⟨by (with_reducible repeat (first | apply Kd.R_alloc | apply Kd.R_drewN | apply Kd.R_drew)); exact HO308.out⟩, ⟨by (with_reducible repeat (first | refine blk_drewN ?_ _ | refine blk_drew ?_ | refine blk_alloc ?_ _)); exact BK299.out⟩, ⟨by (with_reducible repeat (first | refine blk_drewN ?_ _ | refine blk_drew ?_ | refine blk_alloc ?_ _)); exact BK311.out⟩, ⟨by repeat (first | (with_reducible first | exact HB.out | apply below_alloc | apply pw_below_drewN | apply below_drew1 | refine below_set ?_ GE299.out | refine below_set ?_ GE311.out) | exact HB.out)⟩⟩
          · replace c32 := Bool.eq_false_iff.mpr c32
            subst c32
            have H1 : (signetrylaw01_WireReads.j0 k t285 t312 t316 true t288 t289 t290 t291 t294 t300 t301 t302 t303 t306) = some r := by rw [if_neg (show ¬ (false = true) by decide)] at H; exact H
            clear H
            have H := H1
            clear H1
            have H' := Aside0.mk H
            clear H
            have hnb40 := NB299_311.out
            have hnc40 := NB311_299.out
            have hcz41_0 : w26.cell? ⟨gb299, 0, none⟩ = some (.int .i64 t288) := (blk_cell BK299.out 0).trans rfl
            have hcz41_1 : w26.cell? ⟨gb299, 1, none⟩ = some (.int .i64 t289) := (blk_cell BK299.out 1).trans rfl
            have hcz41_2 : w26.cell? ⟨gb299, 2, none⟩ = some (.int .u64 t290) := (blk_cell BK299.out 2).trans rfl
            have hcz41_3 : w26.cell? ⟨gb299, 3, none⟩ = some (.slice Ao16 t291.length co16) := (blk_cell BK299.out 3).trans rfl
            have hcz41_4 : w26.cell? ⟨gb299, 4, none⟩ = some (.slice Ao17 t294.length co17) := (blk_cell BK299.out 4).trans rfl
            have hfz41_0 := blk_frozen BK299.out 0
            have hfz41_1 := blk_frozen BK299.out 1
            have hfz41_2 := blk_frozen BK299.out 2
            have hfz41_3 := blk_frozen BK299.out 3
            have hfz41_4 := blk_frozen BK299.out 4
            have hcz42_0 : w26.cell? ⟨gb311, 0, none⟩ = some (.int .i64 t300) := (blk_cell BK311.out 0).trans rfl
            have hcz42_1 : w26.cell? ⟨gb311, 1, none⟩ = some (.int .i64 t301) := (blk_cell BK311.out 1).trans rfl
            have hcz42_2 : w26.cell? ⟨gb311, 2, none⟩ = some (.int .u64 t302) := (blk_cell BK311.out 2).trans rfl
            have hcz42_3 : w26.cell? ⟨gb311, 3, none⟩ = some (.slice Ao22 t303.length co22) := (blk_cell BK311.out 3).trans rfl
            have hcz42_4 : w26.cell? ⟨gb311, 4, none⟩ = some (.slice Ao23 t306.length co23) := (blk_cell BK311.out 4).trans rfl
            have hfz42_0 := blk_frozen BK311.out 0
            have hfz42_1 := blk_frozen BK311.out 1
            have hfz42_2 := blk_frozen BK311.out 2
            have hfz42_3 := blk_frozen BK311.out 3
            have hfz42_4 := blk_frozen BK311.out 4
            go_wp2_with (first | ((with_reducible refine gate_callee (f := 28) rfl ?_); refine goesL_ (some 43) rfl rfl Try.func28 (by kernel_rfl) rfl #[.agg #[.int .i64 t288, .int .i64 t289, .int .u64 t290, .slice Ao16 t291.length co16, .slice Ao17 t294.length co17], .agg #[.int .i64 t300, .int .i64 t301, .int .u64 t302, .slice Ao22 t303.length co22, .slice Ao23 t306.length co23]] rfl (by (try simp only [List.map_toArray, List.map_cons, List.map_nil]); first | done | rfl | (simp only [List.length_drop, List.length_take]; rfl)) ?_; (with_reducible refine (signetryref01_Same.calls t288 t289 t290 _ _ t291 _ _ t294 t300 t301 t302 _ _ t303 _ _ t306 true _ ?side1 ?side2 ?side3 ?side4 ?side5 ?side6 ?side7 ?side8 A27.out).mono ?_); (case side1 => repeat (first | exact (Kd.R_reads' HO293.out).2.2 | (with_reducible refine Kd.C_alloc ?_ _) | (with_reducible refine Kd.C_drewN ?_ _) | (with_reducible refine Kd.C_drew ?_))); (case side2 => exact (Kd.R_reads' HO293.out).2.1); (case side3 => repeat (first | exact (Kd.R_reads' HO296.out).2.2 | (with_reducible refine Kd.C_alloc ?_ _) | (with_reducible refine Kd.C_drewN ?_ _) | (with_reducible refine Kd.C_drew ?_))); (case side4 => exact (Kd.R_reads' HO296.out).2.1); (case side5 => repeat (first | exact (Kd.R_reads' HO305.out).2.2 | (with_reducible refine Kd.C_alloc ?_ _) | (with_reducible refine Kd.C_drewN ?_ _) | (with_reducible refine Kd.C_drew ?_))); (case side6 => exact (Kd.R_reads' HO305.out).2.1); (case side7 => repeat (first | exact (Kd.R_reads' HO308.out).2.2 | (with_reducible refine Kd.C_alloc ?_ _) | (with_reducible refine Kd.C_drewN ?_ _) | (with_reducible refine Kd.C_drew ?_))); (case side8 => exact (Kd.R_reads' HO308.out).2.1); rintro e w43 ⟨rfl, hb⟩; refine ⟨_, rfl, ?_⟩; have n0_ := Aside0.mk (Kd.V_below (by (with_reducible repeat (first | apply Kd.V_alloc | apply Kd.V_drewN | apply Kd.V_drew)); exact HO284.out) hb); have n1_ := Aside0.mk (Kd.R_below (by (with_reducible repeat (first | apply Kd.R_alloc | apply Kd.R_drewN | apply Kd.R_drew)); exact HO287.out) hb); have n2_ := Aside0.mk (Kd.R_below (by (with_reducible repeat (first | apply Kd.R_alloc | apply Kd.R_drewN | apply Kd.R_drew)); exact HO293.out) hb); have n3_ := Aside0.mk (Kd.R_below (by (with_reducible repeat (first | apply Kd.R_alloc | apply Kd.R_drewN | apply Kd.R_drew)); exact HO296.out) hb); have n4_ := Aside0.mk (Kd.R_below (by (with_reducible repeat (first | apply Kd.R_alloc | apply Kd.R_drewN | apply Kd.R_drew)); exact HO305.out) hb); have n5_ := Aside0.mk (Kd.R_below (by (with_reducible repeat (first | apply Kd.R_alloc | apply Kd.R_drewN | apply Kd.R_drew)); exact HO308.out) hb); have n6_ := Aside0.mk (Kd.S_below (by (with_reducible repeat (first | apply Kd.S_alloc | apply Kd.S_drewN | apply Kd.S_drew)); exact HO314.out) hb); have n7_ := Aside0.mk (Kd.S_below (by (with_reducible repeat (first | apply Kd.S_alloc | apply Kd.S_drewN | apply Kd.S_drew)); exact HO318.out) hb); have n8_ := Aside0.mk (blk_below (g := gb299) (o := .cells #[.int .i64 t288, .int .i64 t289, .int .u64 t290, .slice Ao16 t291.length co16, .slice Ao17 t294.length co17] 33 (0, 0)) (by (with_reducible repeat (first | refine blk_drewN ?_ _ | refine blk_drew ?_ | refine blk_alloc ?_ _)); exact BK299.out) hb); have n9_ := Aside0.mk (blk_below (g := gb311) (o := .cells #[.int .i64 t300, .int .i64 t301, .int .u64 t302, .slice Ao22 t303.length co22, .slice Ao23 t306.length co23] 33 (0, 0)) (by (with_reducible repeat (first | refine blk_drewN ?_ _ | refine blk_drew ?_ | refine blk_alloc ?_ _)); exact BK311.out) hb); have n10_ := Aside0.mk (below_step (by repeat (first | (with_reducible first | exact HB.out | apply below_alloc | apply pw_below_drewN | apply below_drew1 | refine below_set ?_ GE299.out | refine below_set ?_ GE311.out) | exact HB.out)) hb); clear HO284; clear HO287; clear HO293; clear HO296; clear HO305; clear HO308; clear HO314; clear HO318; clear BK299; clear BK311; clear HB; have HO284 := n0_; have HO287 := n1_; have HO293 := n2_; have HO296 := n3_; have HO305 := n4_; have HO308 := n5_; have HO314 := n6_; have HO318 := n7_; have BK299 := n8_; have BK311 := n9_; have HB := n10_; clear n0_ n1_ n2_ n3_ n4_ n5_ n6_ n7_ n8_ n9_ n10_; (try clear hb); (try clear hb2); (try clear hk); (try clear hi); obtain ⟨Ao44, co44, eo44⟩ := Kd.S_slice HO314.out; subst eo44; obtain ⟨Ao45, co45, eo45⟩ := Kd.S_slice HO318.out; subst eo45) | (go_at_call 29; (with_reducible refine (signetrylaw01_same.calls k _ _ t312 _ _ t316 false _ ?side1 ?side2 ?side3 ?side4 A31.out).mono ?_); (case side1 => repeat (first | exact (Kd.S_reads' HO314.out).2.2 | (with_reducible refine Kd.C_alloc ?_ _) | (with_reducible refine Kd.C_drewN ?_ _) | (with_reducible refine Kd.C_drew ?_))); (case side2 => exact (Kd.S_reads' HO314.out).2.1); (case side3 => repeat (first | exact (Kd.S_reads' HO318.out).2.2 | (with_reducible refine Kd.C_alloc ?_ _) | (with_reducible refine Kd.C_drewN ?_ _) | (with_reducible refine Kd.C_drew ?_))); (case side4 => exact (Kd.S_reads' HO318.out).2.1); rintro e w46 ⟨rfl, hb⟩; have n0_ := Aside0.mk (Kd.V_below (by (with_reducible repeat (first | apply Kd.V_alloc | apply Kd.V_drewN | apply Kd.V_drew)); exact HO284.out) hb); have n1_ := Aside0.mk (Kd.R_below (by (with_reducible repeat (first | apply Kd.R_alloc | apply Kd.R_drewN | apply Kd.R_drew)); exact HO287.out) hb); have n2_ := Aside0.mk (Kd.R_below (by (with_reducible repeat (first | apply Kd.R_alloc | apply Kd.R_drewN | apply Kd.R_drew)); exact HO293.out) hb); have n3_ := Aside0.mk (Kd.R_below (by (with_reducible repeat (first | apply Kd.R_alloc | apply Kd.R_drewN | apply Kd.R_drew)); exact HO296.out) hb); have n4_ := Aside0.mk (Kd.R_below (by (with_reducible repeat (first | apply Kd.R_alloc | apply Kd.R_drewN | apply Kd.R_drew)); exact HO305.out) hb); have n5_ := Aside0.mk (Kd.R_below (by (with_reducible repeat (first | apply Kd.R_alloc | apply Kd.R_drewN | apply Kd.R_drew)); exact HO308.out) hb); have n6_ := Aside0.mk (Kd.S_below (by (with_reducible repeat (first | apply Kd.S_alloc | apply Kd.S_drewN | apply Kd.S_drew)); exact HO314.out) hb); have n7_ := Aside0.mk (Kd.S_below (by (with_reducible repeat (first | apply Kd.S_alloc | apply Kd.S_drewN | apply Kd.S_drew)); exact HO318.out) hb); have n8_ := Aside0.mk (blk_below (g := gb299) (o := .cells #[.int .i64 t288, .int .i64 t289, .int .u64 t290, .slice Ao16 t291.length co16, .slice Ao17 t294.length co17] 33 (0, 0)) (by (with_reducible repeat (first | refine blk_drewN ?_ _ | refine blk_drew ?_ | refine blk_alloc ?_ _)); exact BK299.out) hb); have n9_ := Aside0.mk (blk_below (g := gb311) (o := .cells #[.int .i64 t300, .int .i64 t301, .int .u64 t302, .slice Ao22 t303.length co22, .slice Ao23 t306.length co23] 33 (0, 0)) (by (with_reducible repeat (first | refine blk_drewN ?_ _ | refine blk_drew ?_ | refine blk_alloc ?_ _)); exact BK311.out) hb); have n10_ := Aside0.mk (below_step (by repeat (first | (with_reducible first | exact HB.out | apply below_alloc | apply pw_below_drewN | apply below_drew1 | refine below_set ?_ GE299.out | refine below_set ?_ GE311.out) | exact HB.out)) hb); clear HO284; clear HO287; clear HO293; clear HO296; clear HO305; clear HO308; clear HO314; clear HO318; clear BK299; clear BK311; clear HB; have HO284 := n0_; have HO287 := n1_; have HO293 := n2_; have HO296 := n3_; have HO305 := n4_; have HO308 := n5_; have HO314 := n6_; have HO318 := n7_; have BK299 := n8_; have BK311 := n9_; have HB := n10_; clear n0_ n1_ n2_ n3_ n4_ n5_ n6_ n7_ n8_ n9_ n10_; (try clear hb); (try clear hb2); (try clear hk); (try clear hi)))
            go_meet
            case rel => exact ⟨_, (true), (by first | rfl | (simp; done) | (simp [*]; done)), H', ⟨by first | omega | exact Nat.le_refl _⟩, ⟨by (with_reducible repeat (first | apply Kd.R_alloc | apply Kd.R_drewN | apply Kd.R_drew)); exact HO287.out⟩, ⟨by (with_reducible repeat (first | apply Kd.S_alloc | apply Kd.S_drewN | apply Kd.S_drew)); exact Kd.S_mono HO314.out (fun _ hk => ⟨hk.1.1.1.1.1.1.1.2, ⟨hk.2, ⟨hk.1.1.1.1.1.1.2, ⟨hk.1.1.1.1.1.2, ⟨hk.1.1.1.1.2, ⟨hk.1.1.1.2, ⟨hk.1.1.2, hk.1.2⟩⟩⟩⟩⟩⟩⟩)⟩, ⟨by (with_reducible repeat (first | apply Kd.S_alloc | apply Kd.S_drewN | apply Kd.S_drew)); exact Kd.S_mono HO318.out (fun _ hk => ⟨hk.1.1.1.1.1.1.1.2, ⟨hk.1.1.2, ⟨hk.1.1.1.1.1.1.2, ⟨hk.1.1.1.1.1.2, ⟨hk.1.1.1.1.2, ⟨hk.1.1.1.2, ⟨hk.1.2, hk.2⟩⟩⟩⟩⟩⟩⟩)⟩, ⟨by (with_reducible repeat (first | apply Kd.R_alloc | apply Kd.R_drewN | apply Kd.R_drew)); exact HO293.out⟩, ⟨by (with_reducible repeat (first | apply Kd.R_alloc | apply Kd.R_drewN | apply Kd.R_drew)); exact HO296.out⟩, ⟨by (with_reducible repeat (first | apply Kd.R_alloc | apply Kd.R_drewN | apply Kd.R_drew)); exact HO305.out⟩, ⟨by (with_reducible repeat (first | apply Kd.R_alloc | apply Kd.R_drewN | apply Kd.R_drew)); exact HO308.out⟩, ⟨by (with_reducible repeat (first | refine blk_drewN ?_ _ | refine blk_drew ?_ | refine blk_alloc ?_ _)); exact BK299.out⟩, ⟨by (with_reducible repeat (first | refine blk_drewN ?_ _ | refine blk_drew ?_ | refine blk_alloc ?_ _)); exact BK311.out⟩, ⟨by repeat (first | (with_reducible first | exact HB.out | apply below_alloc | apply pw_below_drewN | apply below_drew1 | refine below_set ?_ GE299.out | refine below_set ?_ GE311.out) | exact HB.out)⟩⟩
        · rw [if_neg c30] at H
          have c30b0 : (t298 == t310) = false := beq_eq_false_iff_ne.mpr c30
          have c30b1 : (t298 != t310) = true := bne_iff_ne.mpr c30
          have H' := Aside0.mk H
          clear H
          have hnb47 := NB299_311.out
          have hnc47 := NB311_299.out
          have hcz48_0 : w26.cell? ⟨gb299, 0, none⟩ = some (.int .i64 t288) := (blk_cell BK299.out 0).trans rfl
          have hcz48_1 : w26.cell? ⟨gb299, 1, none⟩ = some (.int .i64 t289) := (blk_cell BK299.out 1).trans rfl
          have hcz48_2 : w26.cell? ⟨gb299, 2, none⟩ = some (.int .u64 t290) := (blk_cell BK299.out 2).trans rfl
          have hcz48_3 : w26.cell? ⟨gb299, 3, none⟩ = some (.slice Ao16 t291.length co16) := (blk_cell BK299.out 3).trans rfl
          have hcz48_4 : w26.cell? ⟨gb299, 4, none⟩ = some (.slice Ao17 t294.length co17) := (blk_cell BK299.out 4).trans rfl
          have hfz48_0 := blk_frozen BK299.out 0
          have hfz48_1 := blk_frozen BK299.out 1
          have hfz48_2 := blk_frozen BK299.out 2
          have hfz48_3 := blk_frozen BK299.out 3
          have hfz48_4 := blk_frozen BK299.out 4
          have hcz49_0 : w26.cell? ⟨gb311, 0, none⟩ = some (.int .i64 t300) := (blk_cell BK311.out 0).trans rfl
          have hcz49_1 : w26.cell? ⟨gb311, 1, none⟩ = some (.int .i64 t301) := (blk_cell BK311.out 1).trans rfl
          have hcz49_2 : w26.cell? ⟨gb311, 2, none⟩ = some (.int .u64 t302) := (blk_cell BK311.out 2).trans rfl
          have hcz49_3 : w26.cell? ⟨gb311, 3, none⟩ = some (.slice Ao22 t303.length co22) := (blk_cell BK311.out 3).trans rfl
          have hcz49_4 : w26.cell? ⟨gb311, 4, none⟩ = some (.slice Ao23 t306.length co23) := (blk_cell BK311.out 4).trans rfl
          have hfz49_0 := blk_frozen BK311.out 0
          have hfz49_1 := blk_frozen BK311.out 1
          have hfz49_2 := blk_frozen BK311.out 2
          have hfz49_3 := blk_frozen BK311.out 3
          have hfz49_4 := blk_frozen BK311.out 4
          go_wp2_with (first | ((with_reducible refine gate_callee (f := 28) rfl ?_); refine goesL_ (some 43) rfl rfl Try.func28 (by kernel_rfl) rfl #[.agg #[.int .i64 t288, .int .i64 t289, .int .u64 t290, .slice Ao16 t291.length co16, .slice Ao17 t294.length co17], .agg #[.int .i64 t300, .int .i64 t301, .int .u64 t302, .slice Ao22 t303.length co22, .slice Ao23 t306.length co23]] rfl (by (try simp only [List.map_toArray, List.map_cons, List.map_nil]); first | done | rfl | (simp only [List.length_drop, List.length_take]; rfl)) ?_; (with_reducible refine (signetryref01_Same.calls t288 t289 t290 _ _ t291 _ _ t294 t300 t301 t302 _ _ t303 _ _ t306 true _ ?side1 ?side2 ?side3 ?side4 ?side5 ?side6 ?side7 ?side8 A27.out).mono ?_); (case side1 => repeat (first | exact (Kd.R_reads' HO293.out).2.2 | (with_reducible refine Kd.C_alloc ?_ _) | (with_reducible refine Kd.C_drewN ?_ _) | (with_reducible refine Kd.C_drew ?_))); (case side2 => exact (Kd.R_reads' HO293.out).2.1); (case side3 => repeat (first | exact (Kd.R_reads' HO296.out).2.2 | (with_reducible refine Kd.C_alloc ?_ _) | (with_reducible refine Kd.C_drewN ?_ _) | (with_reducible refine Kd.C_drew ?_))); (case side4 => exact (Kd.R_reads' HO296.out).2.1); (case side5 => repeat (first | exact (Kd.R_reads' HO305.out).2.2 | (with_reducible refine Kd.C_alloc ?_ _) | (with_reducible refine Kd.C_drewN ?_ _) | (with_reducible refine Kd.C_drew ?_))); (case side6 => exact (Kd.R_reads' HO305.out).2.1); (case side7 => repeat (first | exact (Kd.R_reads' HO308.out).2.2 | (with_reducible refine Kd.C_alloc ?_ _) | (with_reducible refine Kd.C_drewN ?_ _) | (with_reducible refine Kd.C_drew ?_))); (case side8 => exact (Kd.R_reads' HO308.out).2.1); rintro e w50 ⟨rfl, hb⟩; refine ⟨_, rfl, ?_⟩; have n0_ := Aside0.mk (Kd.V_below (by (with_reducible repeat (first | apply Kd.V_alloc | apply Kd.V_drewN | apply Kd.V_drew)); exact HO284.out) hb); have n1_ := Aside0.mk (Kd.R_below (by (with_reducible repeat (first | apply Kd.R_alloc | apply Kd.R_drewN | apply Kd.R_drew)); exact HO287.out) hb); have n2_ := Aside0.mk (Kd.R_below (by (with_reducible repeat (first | apply Kd.R_alloc | apply Kd.R_drewN | apply Kd.R_drew)); exact HO293.out) hb); have n3_ := Aside0.mk (Kd.R_below (by (with_reducible repeat (first | apply Kd.R_alloc | apply Kd.R_drewN | apply Kd.R_drew)); exact HO296.out) hb); have n4_ := Aside0.mk (Kd.R_below (by (with_reducible repeat (first | apply Kd.R_alloc | apply Kd.R_drewN | apply Kd.R_drew)); exact HO305.out) hb); have n5_ := Aside0.mk (Kd.R_below (by (with_reducible repeat (first | apply Kd.R_alloc | apply Kd.R_drewN | apply Kd.R_drew)); exact HO308.out) hb); have n6_ := Aside0.mk (Kd.S_below (by (with_reducible repeat (first | apply Kd.S_alloc | apply Kd.S_drewN | apply Kd.S_drew)); exact HO314.out) hb); have n7_ := Aside0.mk (Kd.S_below (by (with_reducible repeat (first | apply Kd.S_alloc | apply Kd.S_drewN | apply Kd.S_drew)); exact HO318.out) hb); have n8_ := Aside0.mk (blk_below (g := gb299) (o := .cells #[.int .i64 t288, .int .i64 t289, .int .u64 t290, .slice Ao16 t291.length co16, .slice Ao17 t294.length co17] 33 (0, 0)) (by (with_reducible repeat (first | refine blk_drewN ?_ _ | refine blk_drew ?_ | refine blk_alloc ?_ _)); exact BK299.out) hb); have n9_ := Aside0.mk (blk_below (g := gb311) (o := .cells #[.int .i64 t300, .int .i64 t301, .int .u64 t302, .slice Ao22 t303.length co22, .slice Ao23 t306.length co23] 33 (0, 0)) (by (with_reducible repeat (first | refine blk_drewN ?_ _ | refine blk_drew ?_ | refine blk_alloc ?_ _)); exact BK311.out) hb); have n10_ := Aside0.mk (below_step (by repeat (first | (with_reducible first | exact HB.out | apply below_alloc | apply pw_below_drewN | apply below_drew1 | refine below_set ?_ GE299.out | refine below_set ?_ GE311.out) | exact HB.out)) hb); clear HO284; clear HO287; clear HO293; clear HO296; clear HO305; clear HO308; clear HO314; clear HO318; clear BK299; clear BK311; clear HB; have HO284 := n0_; have HO287 := n1_; have HO293 := n2_; have HO296 := n3_; have HO305 := n4_; have HO308 := n5_; have HO314 := n6_; have HO318 := n7_; have BK299 := n8_; have BK311 := n9_; have HB := n10_; clear n0_ n1_ n2_ n3_ n4_ n5_ n6_ n7_ n8_ n9_ n10_; (try clear hb); (try clear hb2); (try clear hk); (try clear hi)))
          go_meet
          case rel => exact ⟨_, (true), (by first | rfl | (simp; done) | (simp [*]; done)), H', ⟨by first | omega | exact Nat.le_refl _⟩, ⟨by (with_reducible repeat (first | apply Kd.R_alloc | apply Kd.R_drewN | apply Kd.R_drew)); exact HO287.out⟩, ⟨by (with_reducible repeat (first | apply Kd.S_alloc | apply Kd.S_drewN | apply Kd.S_drew)); exact Kd.S_mono HO314.out (fun _ hk => ⟨hk.1.1.1.1.1.1.1.2, ⟨hk.2, ⟨hk.1.1.1.1.1.1.2, ⟨hk.1.1.1.1.1.2, ⟨hk.1.1.1.1.2, ⟨hk.1.1.1.2, ⟨hk.1.1.2, hk.1.2⟩⟩⟩⟩⟩⟩⟩)⟩, ⟨by (with_reducible repeat (first | apply Kd.S_alloc | apply Kd.S_drewN | apply Kd.S_drew)); exact Kd.S_mono HO318.out (fun _ hk => ⟨hk.1.1.1.1.1.1.1.2, ⟨hk.1.1.2, ⟨hk.1.1.1.1.1.1.2, ⟨hk.1.1.1.1.1.2, ⟨hk.1.1.1.1.2, ⟨hk.1.1.1.2, ⟨hk.1.2, hk.2⟩⟩⟩⟩⟩⟩⟩)⟩, ⟨by (with_reducible repeat (first | apply Kd.R_alloc | apply Kd.R_drewN | apply Kd.R_drew)); exact HO293.out⟩, ⟨by (with_reducible repeat (first | apply Kd.R_alloc | apply Kd.R_drewN | apply Kd.R_drew)); exact HO296.out⟩, ⟨by (with_reducible repeat (first | apply Kd.R_alloc | apply Kd.R_drewN | apply Kd.R_drew)); exact HO305.out⟩, ⟨by (with_reducible repeat (first | apply Kd.R_alloc | apply Kd.R_drewN | apply Kd.R_drew)); exact HO308.out⟩, ⟨by (with_reducible repeat (first | refine blk_drewN ?_ _ | refine blk_drew ?_ | refine blk_alloc ?_ _)); exact BK299.out⟩, ⟨by (with_reducible repeat (first | refine blk_drewN ?_ _ | refine blk_drew ?_ | refine blk_alloc ?_ _)); exact BK311.out⟩, ⟨by repeat (first | (with_reducible first | exact HB.out | apply below_alloc | apply pw_below_drewN | apply below_drew1 | refine below_set ?_ GE299.out | refine below_set ?_ GE311.out) | exact HB.out)⟩⟩
      · rw [if_neg c29] at H
        have c29b0 : (t297 == t309) = false := beq_eq_false_iff_ne.mpr c29
        have c29b1 : (t297 != t309) = true := bne_iff_ne.mpr c29
        (first | rw [c29b0] | (simp only [i64_w, i32_w]; rw [c29b0]) | skip)
        have H' := Aside0.mk H
        clear H
        have hnb51 := NB299_311.out
        have hnc51 := NB311_299.out
        have hcz52_0 : w26.cell? ⟨gb299, 0, none⟩ = some (.int .i64 t288) := (blk_cell BK299.out 0).trans rfl
        have hcz52_1 : w26.cell? ⟨gb299, 1, none⟩ = some (.int .i64 t289) := (blk_cell BK299.out 1).trans rfl
        have hcz52_2 : w26.cell? ⟨gb299, 2, none⟩ = some (.int .u64 t290) := (blk_cell BK299.out 2).trans rfl
        have hcz52_3 : w26.cell? ⟨gb299, 3, none⟩ = some (.slice Ao16 t291.length co16) := (blk_cell BK299.out 3).trans rfl
        have hcz52_4 : w26.cell? ⟨gb299, 4, none⟩ = some (.slice Ao17 t294.length co17) := (blk_cell BK299.out 4).trans rfl
        have hfz52_0 := blk_frozen BK299.out 0
        have hfz52_1 := blk_frozen BK299.out 1
        have hfz52_2 := blk_frozen BK299.out 2
        have hfz52_3 := blk_frozen BK299.out 3
        have hfz52_4 := blk_frozen BK299.out 4
        have hcz53_0 : w26.cell? ⟨gb311, 0, none⟩ = some (.int .i64 t300) := (blk_cell BK311.out 0).trans rfl
        have hcz53_1 : w26.cell? ⟨gb311, 1, none⟩ = some (.int .i64 t301) := (blk_cell BK311.out 1).trans rfl
        have hcz53_2 : w26.cell? ⟨gb311, 2, none⟩ = some (.int .u64 t302) := (blk_cell BK311.out 2).trans rfl
        have hcz53_3 : w26.cell? ⟨gb311, 3, none⟩ = some (.slice Ao22 t303.length co22) := (blk_cell BK311.out 3).trans rfl
        have hcz53_4 : w26.cell? ⟨gb311, 4, none⟩ = some (.slice Ao23 t306.length co23) := (blk_cell BK311.out 4).trans rfl
        have hfz53_0 := blk_frozen BK311.out 0
        have hfz53_1 := blk_frozen BK311.out 1
        have hfz53_2 := blk_frozen BK311.out 2
        have hfz53_3 := blk_frozen BK311.out 3
        have hfz53_4 := blk_frozen BK311.out 4
        go_wp2_with (first | ((with_reducible refine gate_callee (f := 28) rfl ?_); refine goesL_ (some 43) rfl rfl Try.func28 (by kernel_rfl) rfl #[.agg #[.int .i64 t288, .int .i64 t289, .int .u64 t290, .slice Ao16 t291.length co16, .slice Ao17 t294.length co17], .agg #[.int .i64 t300, .int .i64 t301, .int .u64 t302, .slice Ao22 t303.length co22, .slice Ao23 t306.length co23]] rfl (by (try simp only [List.map_toArray, List.map_cons, List.map_nil]); first | done | rfl | (simp only [List.length_drop, List.length_take]; rfl)) ?_; (with_reducible refine (signetryref01_Same.calls t288 t289 t290 _ _ t291 _ _ t294 t300 t301 t302 _ _ t303 _ _ t306 true _ ?side1 ?side2 ?side3 ?side4 ?side5 ?side6 ?side7 ?side8 A27.out).mono ?_); (case side1 => repeat (first | exact (Kd.R_reads' HO293.out).2.2 | (with_reducible refine Kd.C_alloc ?_ _) | (with_reducible refine Kd.C_drewN ?_ _) | (with_reducible refine Kd.C_drew ?_))); (case side2 => exact (Kd.R_reads' HO293.out).2.1); (case side3 => repeat (first | exact (Kd.R_reads' HO296.out).2.2 | (with_reducible refine Kd.C_alloc ?_ _) | (with_reducible refine Kd.C_drewN ?_ _) | (with_reducible refine Kd.C_drew ?_))); (case side4 => exact (Kd.R_reads' HO296.out).2.1); (case side5 => repeat (first | exact (Kd.R_reads' HO305.out).2.2 | (with_reducible refine Kd.C_alloc ?_ _) | (with_reducible refine Kd.C_drewN ?_ _) | (with_reducible refine Kd.C_drew ?_))); (case side6 => exact (Kd.R_reads' HO305.out).2.1); (case side7 => repeat (first | exact (Kd.R_reads' HO308.out).2.2 | (with_reducible refine Kd.C_alloc ?_ _) | (with_reducible refine Kd.C_drewN ?_ _) | (with_reducible refine Kd.C_drew ?_))); (case side8 => exact (Kd.R_reads' HO308.out).2.1); rintro e w54 ⟨rfl, hb⟩; refine ⟨_, rfl, ?_⟩; have n0_ := Aside0.mk (Kd.V_below (by (with_reducible repeat (first | apply Kd.V_alloc | apply Kd.V_drewN | apply Kd.V_drew)); exact HO284.out) hb); have n1_ := Aside0.mk (Kd.R_below (by (with_reducible repeat (first | apply Kd.R_alloc | apply Kd.R_drewN | apply Kd.R_drew)); exact HO287.out) hb); have n2_ := Aside0.mk (Kd.R_below (by (with_reducible repeat (first | apply Kd.R_alloc | apply Kd.R_drewN | apply Kd.R_drew)); exact HO293.out) hb); have n3_ := Aside0.mk (Kd.R_below (by (with_reducible repeat (first | apply Kd.R_alloc | apply Kd.R_drewN | apply Kd.R_drew)); exact HO296.out) hb); have n4_ := Aside0.mk (Kd.R_below (by (with_reducible repeat (first | apply Kd.R_alloc | apply Kd.R_drewN | apply Kd.R_drew)); exact HO305.out) hb); have n5_ := Aside0.mk (Kd.R_below (by (with_reducible repeat (first | apply Kd.R_alloc | apply Kd.R_drewN | apply Kd.R_drew)); exact HO308.out) hb); have n6_ := Aside0.mk (Kd.S_below (by (with_reducible repeat (first | apply Kd.S_alloc | apply Kd.S_drewN | apply Kd.S_drew)); exact HO314.out) hb); have n7_ := Aside0.mk (Kd.S_below (by (with_reducible repeat (first | apply Kd.S_alloc | apply Kd.S_drewN | apply Kd.S_drew)); exact HO318.out) hb); have n8_ := Aside0.mk (blk_below (g := gb299) (o := .cells #[.int .i64 t288, .int .i64 t289, .int .u64 t290, .slice Ao16 t291.length co16, .slice Ao17 t294.length co17] 33 (0, 0)) (by (with_reducible repeat (first | refine blk_drewN ?_ _ | refine blk_drew ?_ | refine blk_alloc ?_ _)); exact BK299.out) hb); have n9_ := Aside0.mk (blk_below (g := gb311) (o := .cells #[.int .i64 t300, .int .i64 t301, .int .u64 t302, .slice Ao22 t303.length co22, .slice Ao23 t306.length co23] 33 (0, 0)) (by (with_reducible repeat (first | refine blk_drewN ?_ _ | refine blk_drew ?_ | refine blk_alloc ?_ _)); exact BK311.out) hb); have n10_ := Aside0.mk (below_step (by repeat (first | (with_reducible first | exact HB.out | apply below_alloc | apply pw_below_drewN | apply below_drew1 | refine below_set ?_ GE299.out | refine below_set ?_ GE311.out) | exact HB.out)) hb); clear HO284; clear HO287; clear HO293; clear HO296; clear HO305; clear HO308; clear HO314; clear HO318; clear BK299; clear BK311; clear HB; have HO284 := n0_; have HO287 := n1_; have HO293 := n2_; have HO296 := n3_; have HO305 := n4_; have HO308 := n5_; have HO314 := n6_; have HO318 := n7_; have BK299 := n8_; have BK311 := n9_; have HB := n10_; clear n0_ n1_ n2_ n3_ n4_ n5_ n6_ n7_ n8_ n9_ n10_; (try clear hb); (try clear hb2); (try clear hk); (try clear hi)))
        go_meet
        case rel => exact ⟨_, (true), (by first | rfl | (simp; done) | (simp [*]; done)), H', ⟨by first | omega | exact Nat.le_refl _⟩, ⟨by (with_reducible repeat (first | apply Kd.R_alloc | apply Kd.R_drewN | apply Kd.R_drew)); exact HO287.out⟩, ⟨by (with_reducible repeat (first | apply Kd.S_alloc | apply Kd.S_drewN | apply Kd.S_drew)); exact Kd.S_mono HO314.out (fun _ hk => ⟨hk.1.1.1.1.1.1.1.2, ⟨hk.2, ⟨hk.1.1.1.1.1.1.2, ⟨hk.1.1.1.1.1.2, ⟨hk.1.1.1.1.2, ⟨hk.1.1.1.2, ⟨hk.1.1.2, hk.1.2⟩⟩⟩⟩⟩⟩⟩)⟩, ⟨by (with_reducible repeat (first | apply Kd.S_alloc | apply Kd.S_drewN | apply Kd.S_drew)); exact Kd.S_mono HO318.out (fun _ hk => ⟨hk.1.1.1.1.1.1.1.2, ⟨hk.1.1.2, ⟨hk.1.1.1.1.1.1.2, ⟨hk.1.1.1.1.1.2, ⟨hk.1.1.1.1.2, ⟨hk.1.1.1.2, ⟨hk.1.2, hk.2⟩⟩⟩⟩⟩⟩⟩)⟩, ⟨by (with_reducible repeat (first | apply Kd.R_alloc | apply Kd.R_drewN | apply Kd.R_drew)); exact HO293.out⟩, ⟨by (with_reducible repeat (first | apply Kd.R_alloc | apply Kd.R_drewN | apply Kd.R_drew)); exact HO296.out⟩, ⟨by (with_reducible repeat (first | apply Kd.R_alloc | apply Kd.R_drewN | apply Kd.R_drew)); exact HO305.out⟩, ⟨by (with_reducible repeat (first | apply Kd.R_alloc | apply Kd.R_drewN | apply Kd.R_drew)); exact HO308.out⟩, ⟨by (with_reducible repeat (first | refine blk_drewN ?_ _ | refine blk_drew ?_ | refine blk_alloc ?_ _)); exact BK299.out⟩, ⟨by (with_reducible repeat (first | refine blk_drewN ?_ _ | refine blk_drew ?_ | refine blk_alloc ?_ _)); exact BK311.out⟩, ⟨by repeat (first | (with_reducible first | exact HB.out | apply below_alloc | apply pw_below_drewN | apply below_drew1 | refine below_set ?_ GE299.out | refine below_set ?_ GE311.out) | exact HB.out)⟩⟩
    · replace c28 := Bool.eq_false_iff.mpr c28
      subst c28
      have H1 : (signetrylaw01_WireReads.j0 k t285 t312 t316 true t288 t289 t290 t291 t294 t300 t301 t302 t303 t306) = some r := by rw [if_neg (show ¬ (false = true) by decide)] at H; exact H
      clear H
      have H := H1
      clear H1
      have H' := Aside0.mk H
      clear H
      have hnb55 := NB299_311.out
      have hnc55 := NB311_299.out
      have hcz56_0 : w26.cell? ⟨gb299, 0, none⟩ = some (.int .i64 t288) := (blk_cell BK299.out 0).trans rfl
      have hcz56_1 : w26.cell? ⟨gb299, 1, none⟩ = some (.int .i64 t289) := (blk_cell BK299.out 1).trans rfl
      have hcz56_2 : w26.cell? ⟨gb299, 2, none⟩ = some (.int .u64 t290) := (blk_cell BK299.out 2).trans rfl
      have hcz56_3 : w26.cell? ⟨gb299, 3, none⟩ = some (.slice Ao16 t291.length co16) := (blk_cell BK299.out 3).trans rfl
      have hcz56_4 : w26.cell? ⟨gb299, 4, none⟩ = some (.slice Ao17 t294.length co17) := (blk_cell BK299.out 4).trans rfl
      have hfz56_0 := blk_frozen BK299.out 0
      have hfz56_1 := blk_frozen BK299.out 1
      have hfz56_2 := blk_frozen BK299.out 2
      have hfz56_3 := blk_frozen BK299.out 3
      have hfz56_4 := blk_frozen BK299.out 4
      have hcz57_0 : w26.cell? ⟨gb311, 0, none⟩ = some (.int .i64 t300) := (blk_cell BK311.out 0).trans rfl
      have hcz57_1 : w26.cell? ⟨gb311, 1, none⟩ = some (.int .i64 t301) := (blk_cell BK311.out 1).trans rfl
      have hcz57_2 : w26.cell? ⟨gb311, 2, none⟩ = some (.int .u64 t302) := (blk_cell BK311.out 2).trans rfl
      have hcz57_3 : w26.cell? ⟨gb311, 3, none⟩ = some (.slice Ao22 t303.length co22) := (blk_cell BK311.out 3).trans rfl
      have hcz57_4 : w26.cell? ⟨gb311, 4, none⟩ = some (.slice Ao23 t306.length co23) := (blk_cell BK311.out 4).trans rfl
      have hfz57_0 := blk_frozen BK311.out 0
      have hfz57_1 := blk_frozen BK311.out 1
      have hfz57_2 := blk_frozen BK311.out 2
      have hfz57_3 := blk_frozen BK311.out 3
      have hfz57_4 := blk_frozen BK311.out 4
      go_wp2_with (first | ((with_reducible refine gate_callee (f := 28) rfl ?_); refine goesL_ (some 43) rfl rfl Try.func28 (by kernel_rfl) rfl #[.agg #[.int .i64 t288, .int .i64 t289, .int .u64 t290, .slice Ao16 t291.length co16, .slice Ao17 t294.length co17], .agg #[.int .i64 t300, .int .i64 t301, .int .u64 t302, .slice Ao22 t303.length co22, .slice Ao23 t306.length co23]] rfl (by (try simp only [List.map_toArray, List.map_cons, List.map_nil]); first | done | rfl | (simp only [List.length_drop, List.length_take]; rfl)) ?_; (with_reducible refine (signetryref01_Same.calls t288 t289 t290 _ _ t291 _ _ t294 t300 t301 t302 _ _ t303 _ _ t306 false _ ?side1 ?side2 ?side3 ?side4 ?side5 ?side6 ?side7 ?side8 A27.out).mono ?_); (case side1 => repeat (first | exact (Kd.R_reads' HO293.out).2.2 | (with_reducible refine Kd.C_alloc ?_ _) | (with_reducible refine Kd.C_drewN ?_ _) | (with_reducible refine Kd.C_drew ?_))); (case side2 => exact (Kd.R_reads' HO293.out).2.1); (case side3 => repeat (first | exact (Kd.R_reads' HO296.out).2.2 | (with_reducible refine Kd.C_alloc ?_ _) | (with_reducible refine Kd.C_drewN ?_ _) | (with_reducible refine Kd.C_drew ?_))); (case side4 => exact (Kd.R_reads' HO296.out).2.1); (case side5 => repeat (first | exact (Kd.R_reads' HO305.out).2.2 | (with_reducible refine Kd.C_alloc ?_ _) | (with_reducible refine Kd.C_drewN ?_ _) | (with_reducible refine Kd.C_drew ?_))); (case side6 => exact (Kd.R_reads' HO305.out).2.1); (case side7 => repeat (first | exact (Kd.R_reads' HO308.out).2.2 | (with_reducible refine Kd.C_alloc ?_ _) | (with_reducible refine Kd.C_drewN ?_ _) | (with_reducible refine Kd.C_drew ?_))); (case side8 => exact (Kd.R_reads' HO308.out).2.1); rintro e w58 ⟨rfl, hb⟩; refine ⟨_, rfl, ?_⟩; have n0_ := Aside0.mk (Kd.V_below (by (with_reducible repeat (first | apply Kd.V_alloc | apply Kd.V_drewN | apply Kd.V_drew)); exact HO284.out) hb); have n1_ := Aside0.mk (Kd.R_below (by (with_reducible repeat (first | apply Kd.R_alloc | apply Kd.R_drewN | apply Kd.R_drew)); exact HO287.out) hb); have n2_ := Aside0.mk (Kd.R_below (by (with_reducible repeat (first | apply Kd.R_alloc | apply Kd.R_drewN | apply Kd.R_drew)); exact HO293.out) hb); have n3_ := Aside0.mk (Kd.R_below (by (with_reducible repeat (first | apply Kd.R_alloc | apply Kd.R_drewN | apply Kd.R_drew)); exact HO296.out) hb); have n4_ := Aside0.mk (Kd.R_below (by (with_reducible repeat (first | apply Kd.R_alloc | apply Kd.R_drewN | apply Kd.R_drew)); exact HO305.out) hb); have n5_ := Aside0.mk (Kd.R_below (by (with_reducible repeat (first | apply Kd.R_alloc | apply Kd.R_drewN | apply Kd.R_drew)); exact HO308.out) hb); have n6_ := Aside0.mk (Kd.S_below (by (with_reducible repeat (first | apply Kd.S_alloc | apply Kd.S_drewN | apply Kd.S_drew)); exact HO314.out) hb); have n7_ := Aside0.mk (Kd.S_below (by (with_reducible repeat (first | apply Kd.S_alloc | apply Kd.S_drewN | apply Kd.S_drew)); exact HO318.out) hb); have n8_ := Aside0.mk (blk_below (g := gb299) (o := .cells #[.int .i64 t288, .int .i64 t289, .int .u64 t290, .slice Ao16 t291.length co16, .slice Ao17 t294.length co17] 33 (0, 0)) (by (with_reducible repeat (first | refine blk_drewN ?_ _ | refine blk_drew ?_ | refine blk_alloc ?_ _)); exact BK299.out) hb); have n9_ := Aside0.mk (blk_below (g := gb311) (o := .cells #[.int .i64 t300, .int .i64 t301, .int .u64 t302, .slice Ao22 t303.length co22, .slice Ao23 t306.length co23] 33 (0, 0)) (by (with_reducible repeat (first | refine blk_drewN ?_ _ | refine blk_drew ?_ | refine blk_alloc ?_ _)); exact BK311.out) hb); have n10_ := Aside0.mk (below_step (by repeat (first | (with_reducible first | exact HB.out | apply below_alloc | apply pw_below_drewN | apply below_drew1 | refine below_set ?_ GE299.out | refine below_set ?_ GE311.out) | exact HB.out)) hb); clear HO284; clear HO287; clear HO293; clear HO296; clear HO305; clear HO308; clear HO314; clear HO318; clear BK299; clear BK311; clear HB; have HO284 := n0_; have HO287 := n1_; have HO293 := n2_; have HO296 := n3_; have HO305 := n4_; have HO308 := n5_; have HO314 := n6_; have HO318 := n7_; have BK299 := n8_; have BK311 := n9_; have HB := n10_; clear n0_ n1_ n2_ n3_ n4_ n5_ n6_ n7_ n8_ n9_ n10_; (try clear hb); (try clear hb2); (try clear hk); (try clear hi)))
      go_meet
      case rel => exact ⟨_, (true), (by first | rfl | (simp; done) | (simp [*]; done)), H', ⟨by first | omega | exact Nat.le_refl _⟩, ⟨by (with_reducible repeat (first | apply Kd.R_alloc | apply Kd.R_drewN | apply Kd.R_drew)); exact HO287.out⟩, ⟨by (with_reducible repeat (first | apply Kd.S_alloc | apply Kd.S_drewN | apply Kd.S_drew)); exact Kd.S_mono HO314.out (fun _ hk => ⟨hk.1.1.1.1.1.1.1.2, ⟨hk.2, ⟨hk.1.1.1.1.1.1.2, ⟨hk.1.1.1.1.1.2, ⟨hk.1.1.1.1.2, ⟨hk.1.1.1.2, ⟨hk.1.1.2, hk.1.2⟩⟩⟩⟩⟩⟩⟩)⟩, ⟨by (with_reducible repeat (first | apply Kd.S_alloc | apply Kd.S_drewN | apply Kd.S_drew)); exact Kd.S_mono HO318.out (fun _ hk => ⟨hk.1.1.1.1.1.1.1.2, ⟨hk.1.1.2, ⟨hk.1.1.1.1.1.1.2, ⟨hk.1.1.1.1.1.2, ⟨hk.1.1.1.1.2, ⟨hk.1.1.1.2, ⟨hk.1.2, hk.2⟩⟩⟩⟩⟩⟩⟩)⟩, ⟨by (with_reducible repeat (first | apply Kd.R_alloc | apply Kd.R_drewN | apply Kd.R_drew)); exact HO293.out⟩, ⟨by (with_reducible repeat (first | apply Kd.R_alloc | apply Kd.R_drewN | apply Kd.R_drew)); exact HO296.out⟩, ⟨by (with_reducible repeat (first | apply Kd.R_alloc | apply Kd.R_drewN | apply Kd.R_drew)); exact HO305.out⟩, ⟨by (with_reducible repeat (first | apply Kd.R_alloc | apply Kd.R_drewN | apply Kd.R_drew)); exact HO308.out⟩, ⟨by (with_reducible repeat (first | refine blk_drewN ?_ _ | refine blk_drew ?_ | refine blk_alloc ?_ _)); exact BK299.out⟩, ⟨by (with_reducible repeat (first | refine blk_drewN ?_ _ | refine blk_drew ?_ | refine blk_alloc ?_ _)); exact BK311.out⟩, ⟨by repeat (first | (with_reducible first | exact HB.out | apply below_alloc | apply pw_below_drewN | apply below_drew1 | refine below_set ?_ GE299.out | refine below_set ?_ GE311.out) | exact HB.out)⟩⟩
  case rest =>
    clear HC8
    try clear c1
    try clear c2
    try clear p2
    try clear c3
    try clear c4
    try clear c5
    try clear c12
    try clear c20
    try clear c23
    try clear c24
    try clear c25
    try clear c26
    try clear c27
    try clear c28
    try clear c29
    try clear c29b0
    try clear c29b1
    try clear c30
    try clear c30b0
    try clear c30b1
    try clear c32
    try clear c33
    try clear c40
    try clear c47
    try clear c51
    try clear c55
    try clear hcz15_0
    try clear hcz15_1
    try clear hcz15_2
    try clear hcz15_3
    try clear hcz15_4
    try clear hcz21_0
    try clear hcz21_1
    try clear hcz21_2
    try clear hcz21_3
    try clear hcz21_4
    try clear hcz34_0
    try clear hcz34_1
    try clear hcz34_2
    try clear hcz34_3
    try clear hcz34_4
    try clear hcz35_0
    try clear hcz35_1
    try clear hcz35_2
    try clear hcz35_3
    try clear hcz35_4
    try clear hcz41_0
    try clear hcz41_1
    try clear hcz41_2
    try clear hcz41_3
    try clear hcz41_4
    try clear hcz42_0
    try clear hcz42_1
    try clear hcz42_2
    try clear hcz42_3
    try clear hcz42_4
    try clear hcz48_0
    try clear hcz48_1
    try clear hcz48_2
    try clear hcz48_3
    try clear hcz48_4
    try clear hcz49_0
    try clear hcz49_1
    try clear hcz49_2
    try clear hcz49_3
    try clear hcz49_4
    try clear hcz52_0
    try clear hcz52_1
    try clear hcz52_2
    try clear hcz52_3
    try clear hcz52_4
    try clear hcz53_0
    try clear hcz53_1
    try clear hcz53_2
    try clear hcz53_3
    try clear hcz53_4
    try clear hcz56_0
    try clear hcz56_1
    try clear hcz56_2
    try clear hcz56_3
    try clear hcz56_4
    try clear hcz57_0
    try clear hcz57_1
    try clear hcz57_2
    try clear hcz57_3
    try clear hcz57_4
    try clear hfz15_0
    try clear hfz15_1
    try clear hfz15_2
    try clear hfz15_3
    try clear hfz15_4
    try clear hfz21_0
    try clear hfz21_1
    try clear hfz21_2
    try clear hfz21_3
    try clear hfz21_4
    try clear hfz34_0
    try clear hfz34_1
    try clear hfz34_2
    try clear hfz34_3
    try clear hfz34_4
    try clear hfz35_0
    try clear hfz35_1
    try clear hfz35_2
    try clear hfz35_3
    try clear hfz35_4
    try clear hfz41_0
    try clear hfz41_1
    try clear hfz41_2
    try clear hfz41_3
    try clear hfz41_4
    try clear hfz42_0
    try clear hfz42_1
    try clear hfz42_2
    try clear hfz42_3
    try clear hfz42_4
    try clear hfz48_0
    try clear hfz48_1
    try clear hfz48_2
    try clear hfz48_3
    try clear hfz48_4
    try clear hfz49_0
    try clear hfz49_1
    try clear hfz49_2
    try clear hfz49_3
    try clear hfz49_4
    try clear hfz52_0
    try clear hfz52_1
    try clear hfz52_2
    try clear hfz52_3
    try clear hfz52_4
    try clear hfz53_0
    try clear hfz53_1
    try clear hfz53_2
    try clear hfz53_3
    try clear hfz53_4
    try clear hfz56_0
    try clear hfz56_1
    try clear hfz56_2
    try clear hfz56_3
    try clear hfz56_4
    try clear hfz57_0
    try clear hfz57_1
    try clear hfz57_2
    try clear hfz57_3
    try clear hfz57_4
    obtain ⟨kq, x65_7, rfl, HA, HJ7, HO_3, HO_10, HO_12, HO_300003, HO_300004, HO_312003, HO_312004, BK299, BK311, HB⟩ := hcut
    cases kq with
    | zero => exact absurd HA.out (by simp [signetrylaw01_WireReads.j0])
    | succ kj7 =>
      have H := HA.out
      clear HA
      simp only [signetrylaw01_WireReads.j0] at H
      by_cases c59 : x65_7 = true
      · subst c59
        have H1 : (none) = some r := by rw [if_pos rfl] at H; exact H
        clear H
        have H := H1
        clear H1
        exact absurd H (by simp)
      · replace c59 := Bool.eq_false_iff.mpr c59
        subst c59
        have H1 : (signetrylaw01_WireReads.l0 kj7 t285 t312 t316 0 t288 t289 t290 t291 t294 t300 t301 t302 t303 t306) = some r := by rw [if_neg (show ¬ (false = true) by decide)] at H; exact H
        clear H
        have H := H1
        clear H1
        have H' := Aside0.mk H
        clear H
        go_wp2
        go_loopg [14] kj7 (fun kq v14 w' => ∃ (x3_2 : List Int) (x14_2 : Int), v14 = .int .i64 x14_2 ∧ Aside0 (signetrylaw01_WireReads.l0 kq x3_2 t312 t316 x14_2 t288 t289 t290 t291 t294 t300 t301 t302 t303 t306 = some r) ∧ Aside0 (kq ≤ kj7) ∧ Aside0 (Kd.R (Kd.int .u8) 5 w' w.heap.size (fun k_ => some k_ ≠ ((.slice Ao16 t291.length co16) : Value).ownBlock ∧ some k_ ≠ ((.slice Ao17 t294.length co17) : Value).ownBlock ∧ some k_ ≠ ((.slice Ao22 t303.length co22) : Value).ownBlock ∧ some k_ ≠ ((.slice Ao23 t306.length co23) : Value).ownBlock) (.slice Ao12 t285.length co12) x3_2) ∧ Aside0 (Kd.S k33 33 w' w.heap.size (fun k_ => some k_ ≠ ((.slice Ao12 t285.length co12) : Value).ownBlock ∧ some k_ ≠ (v317 : Value).ownBlock ∧ some k_ ≠ ((.slice Ao16 t291.length co16) : Value).ownBlock ∧ some k_ ≠ ((.slice Ao17 t294.length co17) : Value).ownBlock ∧ some k_ ≠ ((.slice Ao22 t303.length co22) : Value).ownBlock ∧ some k_ ≠ ((.slice Ao23 t306.length co23) : Value).ownBlock ∧ k_ ≠ gb299 ∧ k_ ≠ gb311) v313 t312) ∧ Aside0 (Kd.S k33 33 w' w.heap.size (fun k_ => some k_ ≠ ((.slice Ao12 t285.length co12) : Value).ownBlock ∧ some k_ ≠ (v313 : Value).ownBlock ∧ some k_ ≠ ((.slice Ao16 t291.length co16) : Value).ownBlock ∧ some k_ ≠ ((.slice Ao17 t294.length co17) : Value).ownBlock ∧ some k_ ≠ ((.slice Ao22 t303.length co22) : Value).ownBlock ∧ some k_ ≠ ((.slice Ao23 t306.length co23) : Value).ownBlock ∧ k_ ≠ gb299 ∧ k_ ≠ gb311) v317 t316) ∧ Aside0 (Kd.R (Kd.int .u8) 5 w' w.heap.size (fun k_ => some k_ ≠ ((.slice Ao12 t285.length co12) : Value).ownBlock ∧ some k_ ≠ ((.slice Ao17 t294.length co17) : Value).ownBlock ∧ some k_ ≠ ((.slice Ao22 t303.length co22) : Value).ownBlock ∧ some k_ ≠ ((.slice Ao23 t306.length co23) : Value).ownBlock) (.slice Ao16 t291.length co16) t291) ∧ Aside0 (Kd.R (Kd.int .u8) 5 w' w.heap.size (fun k_ => some k_ ≠ ((.slice Ao12 t285.length co12) : Value).ownBlock ∧ some k_ ≠ ((.slice Ao16 t291.length co16) : Value).ownBlock ∧ some k_ ≠ ((.slice Ao22 t303.length co22) : Value).ownBlock ∧ some k_ ≠ ((.slice Ao23 t306.length co23) : Value).ownBlock) (.slice Ao17 t294.length co17) t294) ∧ Aside0 (Kd.R (Kd.int .u8) 5 w' w.heap.size (fun k_ => some k_ ≠ ((.slice Ao12 t285.length co12) : Value).ownBlock ∧ some k_ ≠ ((.slice Ao16 t291.length co16) : Value).ownBlock ∧ some k_ ≠ ((.slice Ao17 t294.length co17) : Value).ownBlock ∧ some k_ ≠ ((.slice Ao23 t306.length co23) : Value).ownBlock) (.slice Ao22 t303.length co22) t303) ∧ Aside0 (Kd.R (Kd.int .u8) 5 w' w.heap.size (fun k_ => some k_ ≠ ((.slice Ao12 t285.length co12) : Value).ownBlock ∧ some k_ ≠ ((.slice Ao16 t291.length co16) : Value).ownBlock ∧ some k_ ≠ ((.slice Ao17 t294.length co17) : Value).ownBlock ∧ some k_ ≠ ((.slice Ao22 t303.length co22) : Value).ownBlock) (.slice Ao23 t306.length co23) t306) ∧ Aside0 (w'.heap[gb299]? = some (.cells #[.int .i64 t288, .int .i64 t289, .int .u64 t290, (.slice Ao16 t291.length co16), (.slice Ao17 t294.length co17)] 33 (0, 0))) ∧ Aside0 (w'.heap[gb311]? = some (.cells #[.int .i64 t300, .int .i64 t301, .int .u64 t302, (.slice Ao22 t303.length co22), (.slice Ao23 t306.length co23)] 33 (0, 0))) ∧ Aside0 (Below w.heap.size w w'))
        case atStart => exact ⟨(t285), (0), (by first | rfl | (simp; done) | (simp [*]; done)), H', ⟨Nat.le_refl _⟩, ⟨by (with_reducible repeat (first | apply Kd.R_alloc | apply Kd.R_drewN | apply Kd.R_drew)); exact HO_3.out⟩, ⟨by (with_reducible repeat (first | apply Kd.S_alloc | apply Kd.S_drewN | apply Kd.S_drew)); exact HO_10.out⟩, ⟨by (with_reducible repeat (first | apply Kd.S_alloc | apply Kd.S_drewN | apply Kd.S_drew)); exact HO_12.out⟩, ⟨by (with_reducible repeat (first | apply Kd.R_alloc | apply Kd.R_drewN | apply Kd.R_drew)); exact HO_300003.out⟩, ⟨by (with_reducible repeat (first | apply Kd.R_alloc | apply Kd.R_drewN | apply Kd.R_drew)); exact HO_300004.out⟩, ⟨by (with_reducible repeat (first | apply Kd.R_alloc | apply Kd.R_drewN | apply Kd.R_drew)); exact HO_312003.out⟩, ⟨by (with_reducible repeat (first | apply Kd.R_alloc | apply Kd.R_drewN | apply Kd.R_drew)); exact HO_312004.out⟩, ⟨by (with_reducible repeat (first | refine blk_drewN ?_ _ | refine blk_drew ?_ | refine blk_alloc ?_ _)); exact BK299.out⟩, ⟨by (with_reducible repeat (first | refine blk_drewN ?_ _ | refine blk_drew ?_ | refine blk_alloc ?_ _)); exact BK311.out⟩, ⟨by repeat (first | (with_reducible first | exact HB.out | apply below_alloc | apply pw_below_drewN | apply below_drew1 | refine below_set ?_ GE299.out | refine below_set ?_ GE311.out) | exact HB.out)⟩⟩
        case round =>
          clear H'
          try clear c1
          try clear c2
          try clear p2
          try clear c3
          try clear c4
          try clear c5
          try clear c12
          try clear c20
          try clear c23
          try clear c24
          try clear c25
          try clear c26
          try clear c27
          try clear c28
          try clear c29
          try clear c29b0
          try clear c29b1
          try clear c30
          try clear c30b0
          try clear c30b1
          try clear c32
          try clear c33
          try clear c40
          try clear c47
          try clear c51
          try clear c55
          try clear c59
          try clear hcz15_0
          try clear hcz15_1
          try clear hcz15_2
          try clear hcz15_3
          try clear hcz15_4
          try clear hcz21_0
          try clear hcz21_1
          try clear hcz21_2
          try clear hcz21_3
          try clear hcz21_4
          try clear hcz34_0
          try clear hcz34_1
          try clear hcz34_2
          try clear hcz34_3
          try clear hcz34_4
          try clear hcz35_0
          try clear hcz35_1
          try clear hcz35_2
          try clear hcz35_3
          try clear hcz35_4
          try clear hcz41_0
          try clear hcz41_1
          try clear hcz41_2
          try clear hcz41_3
          try clear hcz41_4
          try clear hcz42_0
          try clear hcz42_1
          try clear hcz42_2
          try clear hcz42_3
          try clear hcz42_4
          try clear hcz48_0
          try clear hcz48_1
          try clear hcz48_2
          try clear hcz48_3
          try clear hcz48_4
          try clear hcz49_0
          try clear hcz49_1
          try clear hcz49_2
          try clear hcz49_3
          try clear hcz49_4
          try clear hcz52_0
          try clear hcz52_1
          try clear hcz52_2
          try clear hcz52_3
          try clear hcz52_4
          try clear hcz53_0
          try clear hcz53_1
          try clear hcz53_2
          try clear hcz53_3
          try clear hcz53_4
          try clear hcz56_0
          try clear hcz56_1
          try clear hcz56_2
          try clear hcz56_3
          try clear hcz56_4
          try clear hcz57_0
          try clear hcz57_1
          try clear hcz57_2
          try clear hcz57_3
          try clear hcz57_4
          try clear hfz15_0
          try clear hfz15_1
          try clear hfz15_2
          try clear hfz15_3
          try clear hfz15_4
          try clear hfz21_0
          try clear hfz21_1
          try clear hfz21_2
          try clear hfz21_3
          try clear hfz21_4
          try clear hfz34_0
          try clear hfz34_1
          try clear hfz34_2
          try clear hfz34_3
          try clear hfz34_4
          try clear hfz35_0
          try clear hfz35_1
          try clear hfz35_2
          try clear hfz35_3
          try clear hfz35_4
          try clear hfz41_0
          try clear hfz41_1
          try clear hfz41_2
          try clear hfz41_3
          try clear hfz41_4
          try clear hfz42_0
          try clear hfz42_1
          try clear hfz42_2
          try clear hfz42_3
          try clear hfz42_4
          try clear hfz48_0
          try clear hfz48_1
          try clear hfz48_2
          try clear hfz48_3
          try clear hfz48_4
          try clear hfz49_0
          try clear hfz49_1
          try clear hfz49_2
          try clear hfz49_3
          try clear hfz49_4
          try clear hfz52_0
          try clear hfz52_1
          try clear hfz52_2
          try clear hfz52_3
          try clear hfz52_4
          try clear hfz53_0
          try clear hfz53_1
          try clear hfz53_2
          try clear hfz53_3
          try clear hfz53_4
          try clear hfz56_0
          try clear hfz56_1
          try clear hfz56_2
          try clear hfz56_3
          try clear hfz56_4
          try clear hfz57_0
          try clear hfz57_1
          try clear hfz57_2
          try clear hfz57_3
          try clear hfz57_4
          try clear p2
          obtain ⟨x3_2, x14_2, rfl, HA, HK2, HO_3, HO_10, HO_12, HO_300003, HO_300004, HO_312003, HO_312004, BK299, BK311, HB⟩ := hrel
          have hl3_2 := (Kd.R_reads' HO_3.out).1
          rw [hl3_2] at HO_3
          (try simp only [hl3_2])
          (try simp only [hl3_2] at BK299)
          (try simp only [hl3_2] at BK311)
          (try simp only [hl3_2] at HO_10)
          (try simp only [hl3_2] at HO_12)
          (try simp only [hl3_2] at HO_300003)
          (try simp only [hl3_2] at HO_300004)
          (try simp only [hl3_2] at HO_312003)
          (try simp only [hl3_2] at HO_312004)
          cases gk with
          | zero => exact absurd HA.out (by simp [signetrylaw01_WireReads.l0])
          | succ k2 =>
            have H := HA.out
            clear HA
            simp only [signetrylaw01_WireReads.l0] at H
            by_cases c60 : x14_2 < (x3_2.length : Int)
            · rw [if_pos c60] at H
              have c60b0 : decide (x14_2 < (x3_2.length : Int)) = true := decide_eq_true c60
              clear c60
              by_cases c61 : 0 ≤ x14_2
              · rw [if_pos c61] at H
                have c61b0 : decide (0 ≤ x14_2) = true := decide_eq_true c61
                clear c61
                obtain ⟨y323, hy323⟩ : ∃ y_ : List Int, y_ = (x3_2.set (x14_2 : Int).toNat (Go.bits .xor .u8 (rd x3_2 x14_2) 85)) := ⟨_, rfl⟩
                replace H : (signetrylaw01_WireReads.l0 k2 y323 t312 t316 (wrap64 (x14_2 + 1)) t288 t289 t290 t291 t294 t300 t301 t302 t303 t306) = some r := by first | (rw [hy323]; with_reducible exact H) | (have H2_ := (Option.bind_some _ _).symm.trans H; rw [hy323]; with_reducible exact H2_) | (have H2_ := (Option.bind_some _ _).symm.trans H; with_reducible exact H2_) | with_reducible exact H | (rw [hy323]; exact H) | exact H
                have Ny323 := Aside0.mk hy323
                clear hy323
                have H' := Aside0.mk H
                clear H
                have p322 : 0 ≤ (x14_2 : Int) := of_decide_eq_true (by first | (with_reducible assumption) | assumption)
                have q322 : x14_2 < (x3_2.length : Int) := of_decide_eq_true (by first | (with_reducible assumption) | assumption)
                obtain ⟨ad322, e322, hx322_0⟩ := Kd.at_int (Kd.R_reads' HO_3.out).2.2 x14_2 p322 q322
                cases e322
                replace p322 := eq_true p322
                replace q322 := eq_true q322
                have p62 : 0 ≤ (x14_2 : Int) := of_decide_eq_true (by first | (with_reducible assumption) | assumption)
                have q62 : (x14_2 : Int) < ((x3_2.length : Int) : Int) := of_decide_eq_true (by first | (with_reducible assumption) | assumption)
                obtain ⟨go62, co62, eo62, gb62, gl62, cl62, HG62⟩ := Kd.R_form HO_3.out (by omega)
                (first | cases eo62 | (injection eo62 with ea_ en_ ec_; (first | subst ea_ | (injection ea_ with ea_; subst ea_)); subst ec_; clear en_))
                have GB62 := Aside0.mk gb62
                have GG62 := Aside0.mk HG62
                clear gb62 gl62 HG62
                (first | simp only [add_plain] at hx322_0 | skip)
                obtain ⟨hx62_0, hf62_0⟩ := Kd.R_celln 0 HO_3.out (x14_2 : Int) p62 q62
                replace p62 := eq_true p62
                replace q62 := eq_true q62
                have HP63 := Kd.R_putg HO_3.out (x14_2 : Int) (Go.bits .xor .u8 (rd x3_2 x14_2) 85)
                go_wp2_with (first | ((with_reducible refine gate_store (t := 5) (p := 79) rfl ?_); refine store_event (t := 5) (p := 79) (v := ?vo_w64) (w1 := (wr.setCell ⟨go62, (x14_2 : Int).toNat, none⟩ (.int .u8 (Go.bits .xor .u8 (rd x3_2 x14_2) 85)))) ?hg ?ho ?hn ?hr ?_; (case ho => rfl); (case hg => rfl); (case hn => rfl); (case hr => first | (go_simp; done) | (go_simp; rfl)); intro w64 hw; have hg : wr.grownBy w64 (some go62) := (by rw [hw]; exact HP63.2); have hp_ : Kd.R (Kd.int .u8) 5 w64 w.heap.size (fun k_ => some k_ ≠ (.slice Ao16 t291.length co16 : Value).ownBlock ∧ some k_ ≠ (.slice Ao17 t294.length co17 : Value).ownBlock ∧ some k_ ≠ (.slice Ao22 t303.length co22 : Value).ownBlock ∧ some k_ ≠ (.slice Ao23 t306.length co23 : Value).ownBlock) (.slice (some ⟨go62, 0, none⟩) x3_2.length co12) y323 := (by rw [hw, Ny323.out]; exact HP63.1); clear HP63; have n0_ := Aside0.mk (hp_); have n1_ := Aside0.mk (Kd.S_after (v := (.slice (some ⟨go62, 0, none⟩) x3_2.length co12)) (v1 := (.slice (some ⟨go62, 0, none⟩) x3_2.length co12)) (ok := (fun k_ => some k_ ≠ (v317 : Value).ownBlock ∧ some k_ ≠ (.slice Ao16 t291.length co16 : Value).ownBlock ∧ some k_ ≠ (.slice Ao17 t294.length co17 : Value).ownBlock ∧ some k_ ≠ (.slice Ao22 t303.length co22 : Value).ownBlock ∧ some k_ ≠ (.slice Ao23 t306.length co23 : Value).ownBlock ∧ k_ ≠ gb299 ∧ k_ ≠ gb311)) (by (with_reducible repeat (first | apply Kd.S_alloc | apply Kd.S_drewN | apply Kd.S_drew)); exact Kd.S_mono HO_10.out (fun _ hk => ⟨⟨hk.2.1, ⟨hk.2.2.1, ⟨hk.2.2.2.1, ⟨hk.2.2.2.2.1, ⟨hk.2.2.2.2.2.1, ⟨hk.2.2.2.2.2.2.1, hk.2.2.2.2.2.2.2⟩⟩⟩⟩⟩⟩, hk.1⟩)) hg (.inl rfl)); have n2_ := Aside0.mk (Kd.S_after (v := (.slice (some ⟨go62, 0, none⟩) x3_2.length co12)) (v1 := (.slice (some ⟨go62, 0, none⟩) x3_2.length co12)) (ok := (fun k_ => some k_ ≠ (v313 : Value).ownBlock ∧ some k_ ≠ (.slice Ao16 t291.length co16 : Value).ownBlock ∧ some k_ ≠ (.slice Ao17 t294.length co17 : Value).ownBlock ∧ some k_ ≠ (.slice Ao22 t303.length co22 : Value).ownBlock ∧ some k_ ≠ (.slice Ao23 t306.length co23 : Value).ownBlock ∧ k_ ≠ gb299 ∧ k_ ≠ gb311)) (by (with_reducible repeat (first | apply Kd.S_alloc | apply Kd.S_drewN | apply Kd.S_drew)); exact Kd.S_mono HO_12.out (fun _ hk => ⟨⟨hk.2.1, ⟨hk.2.2.1, ⟨hk.2.2.2.1, ⟨hk.2.2.2.2.1, ⟨hk.2.2.2.2.2.1, ⟨hk.2.2.2.2.2.2.1, hk.2.2.2.2.2.2.2⟩⟩⟩⟩⟩⟩, hk.1⟩)) hg (.inl rfl)); have n3_ := Aside0.mk (Kd.R_after (v := (.slice (some ⟨go62, 0, none⟩) x3_2.length co12)) (v1 := (.slice (some ⟨go62, 0, none⟩) x3_2.length co12)) (ok := (fun k_ => some k_ ≠ (.slice Ao17 t294.length co17 : Value).ownBlock ∧ some k_ ≠ (.slice Ao22 t303.length co22 : Value).ownBlock ∧ some k_ ≠ (.slice Ao23 t306.length co23 : Value).ownBlock)) (by (with_reducible repeat (first | apply Kd.R_alloc | apply Kd.R_drewN | apply Kd.R_drew)); exact Kd.R_mono HO_300003.out (fun _ hk => ⟨⟨hk.2.1, ⟨hk.2.2.1, hk.2.2.2⟩⟩, hk.1⟩)) hg (.inl rfl)); have n4_ := Aside0.mk (Kd.R_after (v := (.slice (some ⟨go62, 0, none⟩) x3_2.length co12)) (v1 := (.slice (some ⟨go62, 0, none⟩) x3_2.length co12)) (ok := (fun k_ => some k_ ≠ (.slice Ao16 t291.length co16 : Value).ownBlock ∧ some k_ ≠ (.slice Ao22 t303.length co22 : Value).ownBlock ∧ some k_ ≠ (.slice Ao23 t306.length co23 : Value).ownBlock)) (by (with_reducible repeat (first | apply Kd.R_alloc | apply Kd.R_drewN | apply Kd.R_drew)); exact Kd.R_mono HO_300004.out (fun _ hk => ⟨⟨hk.2.1, ⟨hk.2.2.1, hk.2.2.2⟩⟩, hk.1⟩)) hg (.inl rfl)); have n5_ := Aside0.mk (Kd.R_after (v := (.slice (some ⟨go62, 0, none⟩) x3_2.length co12)) (v1 := (.slice (some ⟨go62, 0, none⟩) x3_2.length co12)) (ok := (fun k_ => some k_ ≠ (.slice Ao16 t291.length co16 : Value).ownBlock ∧ some k_ ≠ (.slice Ao17 t294.length co17 : Value).ownBlock ∧ some k_ ≠ (.slice Ao23 t306.length co23 : Value).ownBlock)) (by (with_reducible repeat (first | apply Kd.R_alloc | apply Kd.R_drewN | apply Kd.R_drew)); exact Kd.R_mono HO_312003.out (fun _ hk => ⟨⟨hk.2.1, ⟨hk.2.2.1, hk.2.2.2⟩⟩, hk.1⟩)) hg (.inl rfl)); have n6_ := Aside0.mk (Kd.R_after (v := (.slice (some ⟨go62, 0, none⟩) x3_2.length co12)) (v1 := (.slice (some ⟨go62, 0, none⟩) x3_2.length co12)) (ok := (fun k_ => some k_ ≠ (.slice Ao16 t291.length co16 : Value).ownBlock ∧ some k_ ≠ (.slice Ao17 t294.length co17 : Value).ownBlock ∧ some k_ ≠ (.slice Ao22 t303.length co22 : Value).ownBlock)) (by (with_reducible repeat (first | apply Kd.R_alloc | apply Kd.R_drewN | apply Kd.R_drew)); exact Kd.R_mono HO_312004.out (fun _ hk => ⟨⟨hk.2.1, ⟨hk.2.2.1, hk.2.2.2⟩⟩, hk.1⟩)) hg (.inl rfl)); have n7_ := Aside0.mk (blk_grown (g := gb299) (o := .cells #[.int .i64 t288, .int .i64 t289, .int .u64 t290, .slice Ao16 t291.length co16, .slice Ao17 t294.length co17] 33 (0, 0)) (by (with_reducible repeat (first | refine blk_drewN ?_ _ | refine blk_drew ?_ | refine blk_alloc ?_ _)); exact BK299.out) hg (Kd.R_ne HO_3.out BK299.out (by decide))); have n8_ := Aside0.mk (blk_grown (g := gb311) (o := .cells #[.int .i64 t300, .int .i64 t301, .int .u64 t302, .slice Ao22 t303.length co22, .slice Ao23 t306.length co23] 33 (0, 0)) (by (with_reducible repeat (first | refine blk_drewN ?_ _ | refine blk_drew ?_ | refine blk_alloc ?_ _)); exact BK311.out) hg (Kd.R_ne HO_3.out BK311.out (by decide))); have n9_ := Aside0.mk ((by rw [hw]; exact below_set (HB.out) GB62.out : Below w.heap.size w w64)); clear HO_3; clear HO_10; clear HO_12; clear HO_300003; clear HO_300004; clear HO_312003; clear HO_312004; clear BK299; clear BK311; clear HB; have HO_3 := n0_; have HO_10 := n1_; have HO_12 := n2_; have HO_300003 := n3_; have HO_300004 := n4_; have HO_312003 := n5_; have HO_312004 := n6_; have BK299 := n7_; have BK311 := n8_; have HB := n9_; clear n0_ n1_ n2_ n3_ n4_ n5_ n6_ n7_ n8_ n9_; clear hg hw hp_))
                (try simp only [← hl3_2])
                go_roundg k2
                case measure => have := HJ7.out; have := HK2.out; omega
                case rel => exact ⟨(y323), (wrap64 (x14_2 + 1)), (by first | rfl | (simp; done) | (simp [*]; done)), H', ⟨by have := HJ7.out; have := HK2.out; omega⟩, ⟨by (try simp only [hl3_2]); (with_reducible repeat (first | apply Kd.R_alloc | apply Kd.R_drewN | apply Kd.R_drew)); exact HO_3.out⟩, ⟨by (try simp only [hl3_2]); (with_reducible repeat (first | apply Kd.S_alloc | apply Kd.S_drewN | apply Kd.S_drew)); exact Kd.S_mono HO_10.out (fun _ hk => ⟨hk.2, ⟨hk.1.1, ⟨hk.1.2.1, ⟨hk.1.2.2.1, ⟨hk.1.2.2.2.1, ⟨hk.1.2.2.2.2.1, ⟨hk.1.2.2.2.2.2.1, hk.1.2.2.2.2.2.2⟩⟩⟩⟩⟩⟩⟩)⟩, ⟨by (try simp only [hl3_2]); (with_reducible repeat (first | apply Kd.S_alloc | apply Kd.S_drewN | apply Kd.S_drew)); exact Kd.S_mono HO_12.out (fun _ hk => ⟨hk.2, ⟨hk.1.1, ⟨hk.1.2.1, ⟨hk.1.2.2.1, ⟨hk.1.2.2.2.1, ⟨hk.1.2.2.2.2.1, ⟨hk.1.2.2.2.2.2.1, hk.1.2.2.2.2.2.2⟩⟩⟩⟩⟩⟩⟩)⟩, ⟨by (try simp only [hl3_2]); (with_reducible repeat (first | apply Kd.R_alloc | apply Kd.R_drewN | apply Kd.R_drew)); exact Kd.R_mono HO_300003.out (fun _ hk => ⟨hk.2, ⟨hk.1.1, ⟨hk.1.2.1, hk.1.2.2⟩⟩⟩)⟩, ⟨by (try simp only [hl3_2]); (with_reducible repeat (first | apply Kd.R_alloc | apply Kd.R_drewN | apply Kd.R_drew)); exact Kd.R_mono HO_300004.out (fun _ hk => ⟨hk.2, ⟨hk.1.1, ⟨hk.1.2.1, hk.1.2.2⟩⟩⟩)⟩, ⟨by (try simp only [hl3_2]); (with_reducible repeat (first | apply Kd.R_alloc | apply Kd.R_drewN | apply Kd.R_drew)); exact Kd.R_mono HO_312003.out (fun _ hk => ⟨hk.2, ⟨hk.1.1, ⟨hk.1.2.1, hk.1.2.2⟩⟩⟩)⟩, ⟨by (try simp only [hl3_2]); (with_reducible repeat (first | apply Kd.R_alloc | apply Kd.R_drewN | apply Kd.R_drew)); exact Kd.R_mono HO_312004.out (fun _ hk => ⟨hk.2, ⟨hk.1.1, ⟨hk.1.2.1, hk.1.2.2⟩⟩⟩)⟩, ⟨by (try simp only [hl3_2]); (with_reducible repeat (first | refine blk_drewN ?_ _ | refine blk_drew ?_ | refine blk_alloc ?_ _)); exact BK299.out⟩, ⟨by (try simp only [hl3_2]); (with_reducible repeat (first | refine blk_drewN ?_ _ | refine blk_drew ?_ | refine blk_alloc ?_ _)); exact BK311.out⟩, ⟨by repeat (first | (with_reducible first | exact HB.out | apply below_alloc | apply pw_below_drewN | apply below_drew1 | refine below_set ?_ GE299.out | refine below_set ?_ GE311.out) | exact HB.out)⟩⟩
              · rw [if_neg c61] at H
                exact absurd H (by simp)
            · rw [if_neg c60] at H
              have c60b0 : decide (x14_2 < (x3_2.length : Int)) = false := decide_eq_false c60
              clear c60
              replace H := Option.bind_eq_some_iff.mp H
              obtain ⟨t324, A650, H⟩ := H
              replace H : (if t324 = true then ((signetrylaw01_same.f k2 t312 t316).bind fun t325 => (if t325 = true then ((signetrylaw01_works.f).bind fun t326 => (some t326)) else (none))) else (none)) = some r := H
              have A65 := Aside0.mk A650
              clear A650
              by_cases c66 : t324 = true
              · subst c66
                have H1 : ((signetrylaw01_same.f k2 t312 t316).bind fun t325 => (if t325 = true then ((signetrylaw01_works.f).bind fun t326 => (some t326)) else (none))) = some r := by rw [if_pos rfl] at H; exact H
                clear H
                have H := H1
                clear H1
                replace H := Option.bind_eq_some_iff.mp H
                obtain ⟨t325, A670, H⟩ := H
                replace H : (if t325 = true then ((signetrylaw01_works.f).bind fun t326 => (some t326)) else (none)) = some r := H
                have A67 := Aside0.mk A670
                clear A670
                by_cases c68 : t325 = true
                · subst c68
                  have H1 : ((signetrylaw01_works.f).bind fun t326 => (some t326)) = some r := by rw [if_pos rfl] at H; exact H
                  clear H
                  have H := H1
                  clear H1
                  replace H := Option.bind_eq_some_iff.mp H
                  obtain ⟨t326, A690, H⟩ := H
                  replace H : (some t326) = some r := H
                  have A69 := Aside0.mk A690
                  clear A690
                  obtain rfl := Option.some.inj H
                  have hnb70 := NB299_311.out
                  have hnc70 := NB311_299.out
                  have hcz71_0 : wr.cell? ⟨gb299, 0, none⟩ = some (.int .i64 t288) := (blk_cell BK299.out 0).trans rfl
                  have hcz71_1 : wr.cell? ⟨gb299, 1, none⟩ = some (.int .i64 t289) := (blk_cell BK299.out 1).trans rfl
                  have hcz71_2 : wr.cell? ⟨gb299, 2, none⟩ = some (.int .u64 t290) := (blk_cell BK299.out 2).trans rfl
                  have hcz71_3 : wr.cell? ⟨gb299, 3, none⟩ = some (.slice Ao16 t291.length co16) := (blk_cell BK299.out 3).trans rfl
                  have hcz71_4 : wr.cell? ⟨gb299, 4, none⟩ = some (.slice Ao17 t294.length co17) := (blk_cell BK299.out 4).trans rfl
                  have hfz71_0 := blk_frozen BK299.out 0
                  have hfz71_1 := blk_frozen BK299.out 1
                  have hfz71_2 := blk_frozen BK299.out 2
                  have hfz71_3 := blk_frozen BK299.out 3
                  have hfz71_4 := blk_frozen BK299.out 4
                  have hcz72_0 : wr.cell? ⟨gb311, 0, none⟩ = some (.int .i64 t300) := (blk_cell BK311.out 0).trans rfl
                  have hcz72_1 : wr.cell? ⟨gb311, 1, none⟩ = some (.int .i64 t301) := (blk_cell BK311.out 1).trans rfl
                  have hcz72_2 : wr.cell? ⟨gb311, 2, none⟩ = some (.int .u64 t302) := (blk_cell BK311.out 2).trans rfl
                  have hcz72_3 : wr.cell? ⟨gb311, 3, none⟩ = some (.slice Ao22 t303.length co22) := (blk_cell BK311.out 3).trans rfl
                  have hcz72_4 : wr.cell? ⟨gb311, 4, none⟩ = some (.slice Ao23 t306.length co23) := (blk_cell BK311.out 4).trans rfl
                  have hfz72_0 := blk_frozen BK311.out 0
                  have hfz72_1 := blk_frozen BK311.out 1
                  have hfz72_2 := blk_frozen BK311.out 2
                  have hfz72_3 := blk_frozen BK311.out 3
                  have hfz72_4 := blk_frozen BK311.out 4
                  go_wp2_with (first | ((with_reducible refine gate_callee (f := 28) rfl ?_); refine goesL_ (some 82) rfl rfl Try.func28 (by kernel_rfl) rfl #[.agg #[.int .i64 t288, .int .i64 t289, .int .u64 t290, .slice Ao16 t291.length co16, .slice Ao17 t294.length co17], .agg #[.int .i64 t300, .int .i64 t301, .int .u64 t302, .slice Ao22 t303.length co22, .slice Ao23 t306.length co23]] rfl (by (try simp only [List.map_toArray, List.map_cons, List.map_nil]); first | done | rfl | (simp only [List.length_drop, List.length_take]; rfl)) ?_; (with_reducible refine (signetryref01_Same.calls t288 t289 t290 _ _ t291 _ _ t294 t300 t301 t302 _ _ t303 _ _ t306 true _ ?side1 ?side2 ?side3 ?side4 ?side5 ?side6 ?side7 ?side8 A65.out).mono ?_); (case side1 => repeat (first | exact (Kd.R_reads' HO_300003.out).2.2 | (with_reducible refine Kd.C_alloc ?_ _) | (with_reducible refine Kd.C_drewN ?_ _) | (with_reducible refine Kd.C_drew ?_))); (case side2 => exact (Kd.R_reads' HO_300003.out).2.1); (case side3 => repeat (first | exact (Kd.R_reads' HO_300004.out).2.2 | (with_reducible refine Kd.C_alloc ?_ _) | (with_reducible refine Kd.C_drewN ?_ _) | (with_reducible refine Kd.C_drew ?_))); (case side4 => exact (Kd.R_reads' HO_300004.out).2.1); (case side5 => repeat (first | exact (Kd.R_reads' HO_312003.out).2.2 | (with_reducible refine Kd.C_alloc ?_ _) | (with_reducible refine Kd.C_drewN ?_ _) | (with_reducible refine Kd.C_drew ?_))); (case side6 => exact (Kd.R_reads' HO_312003.out).2.1); (case side7 => repeat (first | exact (Kd.R_reads' HO_312004.out).2.2 | (with_reducible refine Kd.C_alloc ?_ _) | (with_reducible refine Kd.C_drewN ?_ _) | (with_reducible refine Kd.C_drew ?_))); (case side8 => exact (Kd.R_reads' HO_312004.out).2.1); rintro e w73 ⟨rfl, hb⟩; refine ⟨_, rfl, ?_⟩; have n0_ := Aside0.mk (Kd.R_below (by (with_reducible repeat (first | apply Kd.R_alloc | apply Kd.R_drewN | apply Kd.R_drew)); exact HO_3.out) hb); have n1_ := Aside0.mk (Kd.S_below (by (with_reducible repeat (first | apply Kd.S_alloc | apply Kd.S_drewN | apply Kd.S_drew)); exact HO_10.out) hb); have n2_ := Aside0.mk (Kd.S_below (by (with_reducible repeat (first | apply Kd.S_alloc | apply Kd.S_drewN | apply Kd.S_drew)); exact HO_12.out) hb); have n3_ := Aside0.mk (Kd.R_below (by (with_reducible repeat (first | apply Kd.R_alloc | apply Kd.R_drewN | apply Kd.R_drew)); exact HO_300003.out) hb); have n4_ := Aside0.mk (Kd.R_below (by (with_reducible repeat (first | apply Kd.R_alloc | apply Kd.R_drewN | apply Kd.R_drew)); exact HO_300004.out) hb); have n5_ := Aside0.mk (Kd.R_below (by (with_reducible repeat (first | apply Kd.R_alloc | apply Kd.R_drewN | apply Kd.R_drew)); exact HO_312003.out) hb); have n6_ := Aside0.mk (Kd.R_below (by (with_reducible repeat (first | apply Kd.R_alloc | apply Kd.R_drewN | apply Kd.R_drew)); exact HO_312004.out) hb); have n7_ := Aside0.mk (blk_below (g := gb299) (o := .cells #[.int .i64 t288, .int .i64 t289, .int .u64 t290, .slice Ao16 t291.length co16, .slice Ao17 t294.length co17] 33 (0, 0)) (by (with_reducible repeat (first | refine blk_drewN ?_ _ | refine blk_drew ?_ | refine blk_alloc ?_ _)); exact BK299.out) hb); have n8_ := Aside0.mk (blk_below (g := gb311) (o := .cells #[.int .i64 t300, .int .i64 t301, .int .u64 t302, .slice Ao22 t303.length co22, .slice Ao23 t306.length co23] 33 (0, 0)) (by (with_reducible repeat (first | refine blk_drewN ?_ _ | refine blk_drew ?_ | refine blk_alloc ?_ _)); exact BK311.out) hb); have n9_ := Aside0.mk (below_step (by repeat (first | (with_reducible first | exact HB.out | apply below_alloc | apply pw_below_drewN | apply below_drew1 | refine below_set ?_ GE299.out | refine below_set ?_ GE311.out) | exact HB.out)) hb); clear HO_3; clear HO_10; clear HO_12; clear HO_300003; clear HO_300004; clear HO_312003; clear HO_312004; clear BK299; clear BK311; clear HB; have HO_3 := n0_; have HO_10 := n1_; have HO_12 := n2_; have HO_300003 := n3_; have HO_300004 := n4_; have HO_312003 := n5_; have HO_312004 := n6_; have BK299 := n7_; have BK311 := n8_; have HB := n9_; clear n0_ n1_ n2_ n3_ n4_ n5_ n6_ n7_ n8_ n9_; (try clear hb); (try clear hb2); (try clear hk); (try clear hi); obtain ⟨Ao74, co74, eo74⟩ := Kd.S_slice HO_10.out; subst eo74; obtain ⟨Ao75, co75, eo75⟩ := Kd.S_slice HO_12.out; subst eo75) | (go_at_call 29; (with_reducible refine (signetrylaw01_same.calls k2 _ _ t312 _ _ t316 true _ ?side1 ?side2 ?side3 ?side4 A67.out).mono ?_); (case side1 => repeat (first | exact (Kd.S_reads' HO_10.out).2.2 | (with_reducible refine Kd.C_alloc ?_ _) | (with_reducible refine Kd.C_drewN ?_ _) | (with_reducible refine Kd.C_drew ?_))); (case side2 => exact (Kd.S_reads' HO_10.out).2.1); (case side3 => repeat (first | exact (Kd.S_reads' HO_12.out).2.2 | (with_reducible refine Kd.C_alloc ?_ _) | (with_reducible refine Kd.C_drewN ?_ _) | (with_reducible refine Kd.C_drew ?_))); (case side4 => exact (Kd.S_reads' HO_12.out).2.1); rintro e w76 ⟨rfl, hb⟩; have n0_ := Aside0.mk (Kd.R_below (by (with_reducible repeat (first | apply Kd.R_alloc | apply Kd.R_drewN | apply Kd.R_drew)); exact HO_3.out) hb); have n1_ := Aside0.mk (Kd.S_below (by (with_reducible repeat (first | apply Kd.S_alloc | apply Kd.S_drewN | apply Kd.S_drew)); exact HO_10.out) hb); have n2_ := Aside0.mk (Kd.S_below (by (with_reducible repeat (first | apply Kd.S_alloc | apply Kd.S_drewN | apply Kd.S_drew)); exact HO_12.out) hb); have n3_ := Aside0.mk (Kd.R_below (by (with_reducible repeat (first | apply Kd.R_alloc | apply Kd.R_drewN | apply Kd.R_drew)); exact HO_300003.out) hb); have n4_ := Aside0.mk (Kd.R_below (by (with_reducible repeat (first | apply Kd.R_alloc | apply Kd.R_drewN | apply Kd.R_drew)); exact HO_300004.out) hb); have n5_ := Aside0.mk (Kd.R_below (by (with_reducible repeat (first | apply Kd.R_alloc | apply Kd.R_drewN | apply Kd.R_drew)); exact HO_312003.out) hb); have n6_ := Aside0.mk (Kd.R_below (by (with_reducible repeat (first | apply Kd.R_alloc | apply Kd.R_drewN | apply Kd.R_drew)); exact HO_312004.out) hb); have n7_ := Aside0.mk (blk_below (g := gb299) (o := .cells #[.int .i64 t288, .int .i64 t289, .int .u64 t290, .slice Ao16 t291.length co16, .slice Ao17 t294.length co17] 33 (0, 0)) (by (with_reducible repeat (first | refine blk_drewN ?_ _ | refine blk_drew ?_ | refine blk_alloc ?_ _)); exact BK299.out) hb); have n8_ := Aside0.mk (blk_below (g := gb311) (o := .cells #[.int .i64 t300, .int .i64 t301, .int .u64 t302, .slice Ao22 t303.length co22, .slice Ao23 t306.length co23] 33 (0, 0)) (by (with_reducible repeat (first | refine blk_drewN ?_ _ | refine blk_drew ?_ | refine blk_alloc ?_ _)); exact BK311.out) hb); have n9_ := Aside0.mk (below_step (by repeat (first | (with_reducible first | exact HB.out | apply below_alloc | apply pw_below_drewN | apply below_drew1 | refine below_set ?_ GE299.out | refine below_set ?_ GE311.out) | exact HB.out)) hb); clear HO_3; clear HO_10; clear HO_12; clear HO_300003; clear HO_300004; clear HO_312003; clear HO_312004; clear BK299; clear BK311; clear HB; have HO_3 := n0_; have HO_10 := n1_; have HO_12 := n2_; have HO_300003 := n3_; have HO_300004 := n4_; have HO_312003 := n5_; have HO_312004 := n6_; have BK299 := n7_; have BK311 := n8_; have HB := n9_; clear n0_ n1_ n2_ n3_ n4_ n5_ n6_ n7_ n8_ n9_; (try clear hb); (try clear hb2); (try clear hk); (try clear hi)) | (go_at_call 22; (with_reducible refine (signetrylaw01_works.calls  t326 _ A69.out).mono ?_); rintro e w77 ⟨rfl, hb⟩; have n0_ := Aside0.mk (Kd.R_below (by (with_reducible repeat (first | apply Kd.R_alloc | apply Kd.R_drewN | apply Kd.R_drew)); exact HO_3.out) hb); have n1_ := Aside0.mk (Kd.S_below (by (with_reducible repeat (first | apply Kd.S_alloc | apply Kd.S_drewN | apply Kd.S_drew)); exact HO_10.out) hb); have n2_ := Aside0.mk (Kd.S_below (by (with_reducible repeat (first | apply Kd.S_alloc | apply Kd.S_drewN | apply Kd.S_drew)); exact HO_12.out) hb); have n3_ := Aside0.mk (Kd.R_below (by (with_reducible repeat (first | apply Kd.R_alloc | apply Kd.R_drewN | apply Kd.R_drew)); exact HO_300003.out) hb); have n4_ := Aside0.mk (Kd.R_below (by (with_reducible repeat (first | apply Kd.R_alloc | apply Kd.R_drewN | apply Kd.R_drew)); exact HO_300004.out) hb); have n5_ := Aside0.mk (Kd.R_below (by (with_reducible repeat (first | apply Kd.R_alloc | apply Kd.R_drewN | apply Kd.R_drew)); exact HO_312003.out) hb); have n6_ := Aside0.mk (Kd.R_below (by (with_reducible repeat (first | apply Kd.R_alloc | apply Kd.R_drewN | apply Kd.R_drew)); exact HO_312004.out) hb); have n7_ := Aside0.mk (blk_below (g := gb299) (o := .cells #[.int .i64 t288, .int .i64 t289, .int .u64 t290, .slice Ao16 t291.length co16, .slice Ao17 t294.length co17] 33 (0, 0)) (by (with_reducible repeat (first | refine blk_drewN ?_ _ | refine blk_drew ?_ | refine blk_alloc ?_ _)); exact BK299.out) hb); have n8_ := Aside0.mk (blk_below (g := gb311) (o := .cells #[.int .i64 t300, .int .i64 t301, .int .u64 t302, .slice Ao22 t303.length co22, .slice Ao23 t306.length co23] 33 (0, 0)) (by (with_reducible repeat (first | refine blk_drewN ?_ _ | refine blk_drew ?_ | refine blk_alloc ?_ _)); exact BK311.out) hb); have n9_ := Aside0.mk (below_step (by repeat (first | (with_reducible first | exact HB.out | apply below_alloc | apply pw_below_drewN | apply below_drew1 | refine below_set ?_ GE299.out | refine below_set ?_ GE311.out) | exact HB.out)) hb); clear HO_3; clear HO_10; clear HO_12; clear HO_300003; clear HO_300004; clear HO_312003; clear HO_312004; clear BK299; clear BK311; clear HB; have HO_3 := n0_; have HO_10 := n1_; have HO_12 := n2_; have HO_300003 := n3_; have HO_300004 := n4_; have HO_312003 := n5_; have HO_312004 := n6_; have BK299 := n7_; have BK311 := n8_; have HB := n9_; clear n0_ n1_ n2_ n3_ n4_ n5_ n6_ n7_ n8_ n9_; (try clear hb); (try clear hb2); (try clear hk); (try clear hi)))
                  go_ret
                  exact ⟨by first | rfl | (simp [errW_none, errW_some] <;> rfl) | (simp [*, errW_none, errW_some] <;> rfl), by repeat (first | (with_reducible first | exact HB.out | apply below_alloc | apply pw_below_drewN | apply below_drew1 | refine below_set ?_ GE299.out | refine below_set ?_ GE311.out) | exact HB.out)⟩
                · replace c68 := Bool.eq_false_iff.mpr c68
                  subst c68
                  have H1 : (none) = some r := by rw [if_neg (show ¬ (false = true) by decide)] at H; exact H
                  clear H
                  have H := H1
                  clear H1
                  exact absurd H (by simp)
              · replace c66 := Bool.eq_false_iff.mpr c66
                subst c66
                have H1 : (none) = some r := by rw [if_neg (show ¬ (false = true) by decide)] at H; exact H
                clear H
                have H := H1
                clear H1
                exact absurd H (by simp)

/-- THE ONE PURE STATEMENT of signetrylaw01_WireReads: yours. -/
def signetrylaw01_WireReads.Pure : Prop := ∀ (l0 : List Int), l0.length ≤ maxLen → l0.length * 1 ≤ 140737488351232 → (∀ x ∈ l0, (Lit.int .u8 x).wf = true) → ∃ k, signetrylaw01_WireReads.f k l0 = some true
theorem signetrylaw01_WireReads.walk (P : signetrylaw01_WireReads.Pure) (a0 : Option Addr) (len0 cap0 : Nat) (z0 : List Int) (w : World) (w0 : (a0 = none ∧ len0 = 0 ∧ cap0 = 0 ∧ z0 = []) ∨ ∃ x, a0 = some x ∧ len0 ≤ cap0 ∧ cap0 ≤ maxLen ∧ z0.length = cap0 ∧ (∀ i, i < z0.length → w.cell? (x.add i) = some (.int .u8 (z0.getD i 0))) ∧ ∀ n ∈ z0, (Lit.int .u8 n).wf = true) (y0 : len0 * 1 ≤ 140737488351232) :
    Calls Try.prog 4 #[.slice a0 len0 cap0] w fun e w' => e = .returned (.bool true) ∧ Below w.heap.size w w' := by
  obtain ⟨l0, rfl, hr0, hm0, hw0, hc0⟩ := ReadsInt.ofRowC w0
  obtain ⟨k, h⟩ := P l0 hm0 y0 hw0
  refine (signetrylaw01_WireReads.calls k _ _ l0 true w (Kd.C_of_reads (d := (0 : Int)) (h1 := fun _ => rfl) hr0) hc0 h).mono ?_
  rintro e w' ⟨rfl, hd⟩
  exact ⟨rfl, hd⟩
end Go.Proofs.Ytbclejgljegfmaa.PAll
