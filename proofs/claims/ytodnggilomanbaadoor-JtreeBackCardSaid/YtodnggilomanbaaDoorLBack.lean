/-
  JtreeBack: the walk.
-/
import Derived.Test.YtodnggilomanbaaDoorPureBack
import Derived.Test.YtodnggilomanbaaDoorGK
import Derived.Test.YtodnggilomanbaaDoorGX
import Derived.Test.YtodnggilomanbaaDoorPX0
namespace Go.Proofs.YtodnggilomanbaaDoor.Hand
open Go.RowKit Go.Lib Go.Proofs.YtodnggilomanbaaDoor.PAll Go.Proofs.YtodnggilomanbaaDoorW.PrintWords Go.Proofs.YtodnggilomanbaaDoorW.PrintLast Go.Proofs.YtodnggilomanbaaDoorW.PrintMore Go.Proofs.YtodnggilomanbaaDoor.Pure
attribute [local go_sem] max2_int min2_int max_two min_two max_three min_three max_four min_four
set_option linter.unusedVariables false
set_option linter.unusedSimpArgs false
attribute [-simp] List.length_take List.length_drop ByteArray.size_extract

theorem C_take {α : Type} {k : Kd α} {w : World} {A : Option Addr} {xs : List α} (h : k.C w A xs.length xs) (m : Nat) : k.C w A (xs.take m).length (xs.take m) := by
  refine ⟨rfl, by have := h.2.1; rw [List.length_take]; omega, fun hp => ?_⟩
  have hx : 0 < xs.length := by
    rw [List.length_take] at hp
    omega
  obtain ⟨ad, e, hcell⟩ := h.2.2 hx
  refine ⟨ad, e, fun j p hj => hcell j p ?_⟩
  rw [List.getElem?_take] at hj
  split at hj
  · exact hj
  · cases hj
set_option maxRecDepth 100000 in
set_option maxHeartbeats 8000000 in
theorem back_walk (A : Option Addr) (c : Nat) (l : List Int) (w : World) (hC : (Kd.int .i64).C w A l.length l) (hc : l.length ≤ c) (HTAB : Tabs w) :
    Calls Tryd.prog 4 #[.agg #[.slice A l.length c]] w fun e w' => e = .returned (.bool true) ∧ Below w.heap.size w w' := by
  have hlt : (l.take 200).length = min 200 l.length := List.length_take
  have hmin : (if (200 : Int) < (l.length : Int) then (200 : Int) else (l.length : Int)) = ((l.take 200).length : Int) := by
    rw [hlt]
    split <;> omega
  have hC2 := C_take hC 200
  have hc2 : (l.take 200).length ≤ c := by omega
  obtain ⟨hsm, hcnt⟩ := seed_small (l := l.take 200) (by omega)
  obtain ⟨l2, hl2⟩ : ∃ l2, l.take 200 = l2 := ⟨_, rfl⟩
  rw [hl2] at hlt hmin hC2 hc2 hsm hcnt
  obtain ⟨r, hr⟩ : ∃ r, seedF 6 l2 = r := ⟨_, rfl⟩
  rw [hr] at hsm hcnt
  have hwk := works_60
  have hB0 : Below w.heap.size w (w.alloc (.cells #[.slice A l.length c] 38)) := below_alloc (Below.refl _ _) _
  have hb0 : (w.alloc (.cells #[.slice A l.length c] 38)).heap[w.heap.size]? = some (.cells #[.slice A l.length c] 38 (0, 0)) := heap_alloc_new w _
  have hwc := signetrylaw14_works.calls 60 true _ hwk (HTAB.below hB0)
  go_enter Tryd.func4, Tryd.ntmps4
  go_upto_region 3 with (go_at_call 11; refine hwc.mono ?_; rintro e w1 ⟨rfl, hb1⟩; have hbk := blk_below hb0 hb1; have hB1 := below_step hB0 hb1; clear hb1; have hz1 := cell_of (i := 0) hbk rfl; have hf1 := blk_frozen hbk 0)
  clear hwc hb0 hB0
  go_upto_region 4 with (fail)
  rw [← hlt]
  have hs : IsSd w (w1.setCell ⟨w.heap.size, 0, none⟩ (.slice A l2.length c)) w.heap.size l2 := ⟨A, c, by simpa using blk_set hbk 0 (.slice A l2.length c), Nat.le_refl _, hc2, hC2⟩
  have hB2 : Below w.heap.size w (w1.setCell ⟨w.heap.size, 0, none⟩ (.slice A l2.length c)) := below_set hB1 (Nat.le_refl _)
  have hsn := snode_calls w.heap.size w 6 1 l2 _ (by decide) (by decide) hs hB2
  rw [hr] at hsn
  clear hr hs hB2 hmin hC2 hc2 hlt hl2 hC hc hbk hz1 hf1 hB1
  obtain ⟨⟨a, b, q, d⟩, rest⟩ := r
  go_upto_region 5 with (go_at_call 12; refine hsn.mono ?_; rintro e w2 ⟨v2, v3, rfl, hr2, hr3, hsd⟩; obtain ⟨A2, c2, rfl, hc2, hC2⟩ := Kd.R_reads hr2; obtain ⟨A3, c3, rfl, hc3, hC3⟩ := Kd.R_reads hr3; have hBn := hsd.bl; clear hr2 hr3 hsd)
  have hbN : (w2.alloc (.cells #[.int .i64 a, .string b, .slice A2 q.length c2, .slice A3 d.length c3] 32)).heap[w2.heap.size]? = some (.cells #[.int .i64 a, .string b, .slice A2 q.length c2, .slice A3 d.length c3] 32 (0, 0)) := heap_alloc_new w2 _
  have hB3 := below_alloc hBn (.cells #[.int .i64 a, .string b, .slice A2 q.length c2, .slice A3 d.length c3] 32)
  have hU3 : Below w2.heap.size w2 (w2.alloc (.cells #[.int .i64 a, .string b, .slice A2 q.length c2, .slice A3 d.length c3] 32)) := below_alloc (Below.refl _ _) _
  have hC23 := Kd.C_below hC2 hU3
  have hC33 := Kd.C_below hC3 hU3
  obtain ⟨bn, hbn⟩ : ∃ bn, w2.heap.size = bn := ⟨_, rfl⟩
  obtain ⟨w3, hw3⟩ : ∃ w3, w2.alloc (.cells #[.int .i64 a, .string b, .slice A2 q.length c2, .slice A3 d.length c3] 32) = w3 := ⟨_, rfl⟩
  rw [hw3] at hbN hB3 hC23 hC33 ⊢
  rw [hbn] at hbN ⊢
  clear hC2 hC3 hU3 hw3 hbn hBn hsn
  have k0 := cell_of (i := 0) hbN rfl
  have k1 := cell_of (i := 1) hbN rfl
  have k2 := cell_of (i := 2) hbN rfl
  have k3 := cell_of (i := 3) hbN rfl
  cases hm : mayF ⟨a, b, q, d⟩ 1 with
  | false =>
    obtain ⟨k, hk⟩ := seed_not hsm hcnt hm
    obtain ⟨f1, f2⟩ := hk k (Nat.le_refl _)
    have hcT := jtree_Text.calls k a b A2 c2 q A3 c3 d _ _ w3 hC23 hc2 hC33 hc3 f1 (HTAB.below hB3)
    clear hk hm hsm hcnt f1
    go_upto_region 6 with (go_at_call 13; refine hcT.mono ?_; rintro e w4 ⟨rfl, hb4⟩; have hB4 := below_step hB3 hb4; have hbN4 := blk_below hbN hb4; have hC24 := Kd.C_below hC23 hb4; have hC34 := Kd.C_below hC33 hb4; clear hb4)
    have hcC := jtree_Check.calls k a b A2 c2 q A3 c3 d _ w4 hC24 hc2 hC34 hc3 f2 (HTAB.below hB4)
    clear k0 k1 k2 k3 f2 hcT
    have u0 := cell_of (i := 0) hbN4 rfl
    have u1 := cell_of (i := 1) hbN4 rfl
    have u2 := cell_of (i := 2) hbN4 rfl
    have u3 := cell_of (i := 3) hbN4 rfl
    go_wp2_with (go_at_call 14; refine hcC.mono ?_; rintro e w5 ⟨rfl, hb5⟩; have hB5 := below_step hB4 hb5; clear hb5)
    go_ret
    exact ⟨rfl, hB5⟩
  | true =>
    obtain ⟨k, hk⟩ := seed_may hsm hcnt hm
    obtain ⟨f1, f2, f3, f4⟩ := hk k (Nat.le_refl _)
    obtain ⟨tx, htx⟩ : ∃ tx, wriF ⟨a, b, q, d⟩ = tx := ⟨_, rfl⟩
    rw [htx] at f1 f3
    have hcT := jtree_Text.calls k a b A2 c2 q A3 c3 d _ _ w3 hC23 hc2 hC33 hc3 f1 (HTAB.below hB3)
    clear hk hm hsm hcnt f1 htx
    go_upto_region 6 with (go_at_call 13; refine hcT.mono ?_; rintro e w4 ⟨rfl, hb4⟩; have hB4 := below_step hB3 hb4; have hbN4 := blk_below hbN hb4; have hC24 := Kd.C_below hC23 hb4; have hC34 := Kd.C_below hC33 hb4; clear hb4)
    have hcC := jtree_Check.calls k a b A2 c2 q A3 c3 d _ w4 hC24 hc2 hC34 hc3 f2 (HTAB.below hB4)
    clear k0 k1 k2 k3 f2 hcT hB3 hbN hC23 hC33
    have u0 := cell_of (i := 0) hbN4 rfl
    have u1 := cell_of (i := 1) hbN4 rfl
    have u2 := cell_of (i := 2) hbN4 rfl
    have u3 := cell_of (i := 3) hbN4 rfl
    go_upto_region 8 with (go_at_call 14; refine hcC.mono ?_; rintro e w5 ⟨rfl, hb5⟩; have hB5 := below_step hB4 hb5; have hbN5 := blk_below hbN4 hb5; have hC25 := Kd.C_below hC24 hb5; have hC35 := Kd.C_below hC34 hb5; clear hb5)
    clear u0 u1 u2 u3 hcC hB4 hbN4 hC24 hC34
    have hcP := jtree_Parse.calls k tx a b q d 0 0 w5 f3 (HTAB.below hB5)
    go_upto_region 9 with (go_at_call 10; refine hcP.mono ?_; rintro e w6 ⟨v2, v3, rfl, hr2, hr3, hb6⟩; obtain ⟨B2, e2, rfl, he2, hD2⟩ := Kd.R_reads hr2; obtain ⟨B3, e3, rfl, he3, hD3⟩ := Kd.R_reads hr3; have hB6 := below_step hB5 hb6; have hbN6 := blk_below hbN5 hb6; have hC26 := Kd.C_below hC25 hb6; have hC36 := Kd.C_below hC35 hb6; clear hb6 hr2 hr3)
    have hU7 : Below w6.heap.size w6 (w6.alloc (.cells #[.int .i64 a, .string b, .slice B2 q.length e2, .slice B3 d.length e3] 32)) := below_alloc (Below.refl _ _) _
    have hbM : (w6.alloc (.cells #[.int .i64 a, .string b, .slice B2 q.length e2, .slice B3 d.length e3] 32)).heap[w6.heap.size]? = some (.cells #[.int .i64 a, .string b, .slice B2 q.length e2, .slice B3 d.length e3] 32 (0, 0)) := heap_alloc_new w6 _
    have hbN7 := blk_below hbN6 hU7
    have hC27 := Kd.C_below hC26 hU7
    have hC37 := Kd.C_below hC36 hU7
    have hD27 := Kd.C_below hD2 hU7
    have hD37 := Kd.C_below hD3 hU7
    have hB7 := below_step hB6 hU7
    obtain ⟨bm, hbm⟩ : ∃ bm, w6.heap.size = bm := ⟨_, rfl⟩
    obtain ⟨w7, hw7⟩ : ∃ w7, w6.alloc (.cells #[.int .i64 a, .string b, .slice B2 q.length e2, .slice B3 d.length e3] 32) = w7 := ⟨_, rfl⟩
    rw [hw7] at hbM hbN7 hC27 hC37 hD27 hD37 hB7 ⊢
    rw [hbm] at hbM ⊢
    clear hC25 hC35 hC26 hC36 hD2 hD3 hU7 hw7 hbm hbN5 hbN6 hB5 hB6 f3 hcP
    have hcS := jtree_Same.calls k a b A2 c2 q A3 c3 d a b B2 e2 q B3 e3 d true w7 hC27 hc2 hC37 hc3 hD27 he2 hD37 he3 f4
    have u0 := cell_of (i := 0) hbN7 rfl
    have u1 := cell_of (i := 1) hbN7 rfl
    have u2 := cell_of (i := 2) hbN7 rfl
    have u3 := cell_of (i := 3) hbN7 rfl
    have m0 := cell_of (i := 0) hbM rfl
    have m1 := cell_of (i := 1) hbM rfl
    have m2 := cell_of (i := 2) hbM rfl
    have m3 := cell_of (i := 3) hbM rfl
    go_wp2_with (go_at_call 15; refine hcS.mono ?_; rintro e w8 ⟨rfl, hb8⟩; have hB8 := below_step hB7 hb8; clear hb8)
    go_ret
    exact ⟨rfl, hB8⟩
end Go.Proofs.YtodnggilomanbaaDoor.Hand
