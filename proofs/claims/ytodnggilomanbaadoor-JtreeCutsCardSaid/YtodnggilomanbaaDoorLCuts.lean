/-
  JtreeCuts: the walk.
-/
import Derived.Test.YtodnggilomanbaaDoorPureCuts
import Derived.Test.YtodnggilomanbaaDoorGK
import Derived.Test.YtodnggilomanbaaDoorGX
import Derived.Test.YtodnggilomanbaaDoorPX0
namespace Go.Proofs.YtodnggilomanbaaDoor.Hand
open Go.RowKit Go.Lib Go.Proofs.YtodnggilomanbaaDoor.PAll Go.Proofs.YtodnggilomanbaaDoorW.PrintWords Go.Proofs.YtodnggilomanbaaDoorW.PrintLast Go.Proofs.YtodnggilomanbaaDoorW.PrintMore Go.Proofs.YtodnggilomanbaaDoor.Pure
attribute [local go_sem] max2_int min2_int max_two min_two max_three min_three max_four min_four
set_option linter.unusedVariables false
set_option linter.unusedSimpArgs false
attribute [-simp] List.length_take List.length_drop ByteArray.size_extract

theorem C_take {α : Type} {k : Kd α} {w : World} {A : Option Addr} {xs : List α} (h : k.C w A xs.length xs) (m : Nat) : k.C w A (xs.take m).length (xs.take m) := by
  refine ⟨rfl, by have := h.2.1; rw [List.length_take]; omega, fun hp => ?_⟩
  have hx : 0 < xs.length := by
    rw [List.length_take] at hp
    omega
  obtain ⟨ad, e, hcell⟩ := h.2.2 hx
  refine ⟨ad, e, fun j p hj => hcell j p ?_⟩
  rw [List.getElem?_take] at hj
  split at hj
  · exact hj
  · cases hj
set_option maxRecDepth 100000 in
set_option maxHeartbeats 8000000 in
theorem cuts_walk (A : Option Addr) (c : Nat) (l : List Int) (x : Int) (w : World) (hC : (Kd.int .i64).C w A l.length l) (hc : l.length ≤ c) (HTAB : Tabs w) :
    Calls Tryd.prog 6 #[.agg #[.slice A l.length c], .int .i64 x] w fun e w' => e = .returned (.bool true) ∧ Below w.heap.size w w' := by
  have hlt : (l.take 100).length = min 100 l.length := List.length_take
  have hmin : (if (100 : Int) < (l.length : Int) then (100 : Int) else (l.length : Int)) = ((l.take 100).length : Int) := by
    rw [hlt]
    split <;> omega
  have hC2 := C_take hC 100
  have hc2 : (l.take 100).length ≤ c := by omega
  obtain ⟨hsm, hcnt⟩ := seed_small (l := l.take 100) (by omega)
  obtain ⟨l2, hl2⟩ : ∃ l2, l.take 100 = l2 := ⟨_, rfl⟩
  rw [hl2] at hlt hmin hC2 hc2 hsm hcnt
  obtain ⟨r, hr⟩ : ∃ r, seedF 6 l2 = r := ⟨_, rfl⟩
  rw [hr] at hsm hcnt
  have hwk := works_60
  have hB1 : Below w.heap.size w (w.alloc (.cells #[.slice A l.length c] 38)) := below_alloc (Below.refl _ _) _
  have hbk : (w.alloc (.cells #[.slice A l.length c] 38)).heap[w.heap.size]? = some (.cells #[.slice A l.length c] 38 (0, 0)) := heap_alloc_new w _
  obtain ⟨w1, hw1⟩ : ∃ w1, w.alloc (.cells #[.slice A l.length c] 38) = w1 := ⟨_, rfl⟩
  rw [hw1] at hB1 hbk
  go_enter Tryd.func6, Tryd.ntmps6
  go_upto_region 1 with (fail)
  clear hw1
  have hz1 := cell_of (i := 0) hbk rfl
  have hf1 := blk_frozen hbk 0
  go_upto_region 2 with (fail)
  rw [← hlt]
  have hs : IsSd w (w1.setCell ⟨w.heap.size, 0, none⟩ (.slice A l2.length c)) w.heap.size l2 := ⟨A, c, by simpa using blk_set hbk 0 (.slice A l2.length c), Nat.le_refl _, hc2, hC2⟩
  have hB2 : Below w.heap.size w (w1.setCell ⟨w.heap.size, 0, none⟩ (.slice A l2.length c)) := below_set hB1 (Nat.le_refl _)
  have hsn := snode_calls w.heap.size w 6 1 l2 _ (by decide) (by decide) hs hB2
  rw [hr] at hsn
  clear hr hs hB2 hmin hC2 hc2 hlt hl2 hC hc hbk hz1 hf1 hB1
  obtain ⟨⟨a, b, q, d⟩, rest⟩ := r
  go_upto_region 3 with (go_at_call 12; refine hsn.mono ?_; rintro e w2 ⟨v2, v3, rfl, hr2, hr3, hsd⟩; obtain ⟨A2, c2, rfl, hc2, hC2⟩ := Kd.R_reads hr2; obtain ⟨A3, c3, rfl, hc3, hC3⟩ := Kd.R_reads hr3; have hBn := hsd.bl; clear hr2 hr3 hsd)
  have hbN : (w2.alloc (.cells #[.int .i64 a, .string b, .slice A2 q.length c2, .slice A3 d.length c3] 32)).heap[w2.heap.size]? = some (.cells #[.int .i64 a, .string b, .slice A2 q.length c2, .slice A3 d.length c3] 32 (0, 0)) := heap_alloc_new w2 _
  have hB3 := below_alloc hBn (.cells #[.int .i64 a, .string b, .slice A2 q.length c2, .slice A3 d.length c3] 32)
  have hU3 : Below w2.heap.size w2 (w2.alloc (.cells #[.int .i64 a, .string b, .slice A2 q.length c2, .slice A3 d.length c3] 32)) := below_alloc (Below.refl _ _) _
  have hC23 := Kd.C_below hC2 hU3
  have hC33 := Kd.C_below hC3 hU3
  obtain ⟨bn, hbn⟩ : ∃ bn, w2.heap.size = bn := ⟨_, rfl⟩
  obtain ⟨w3, hw3⟩ : ∃ w3, w2.alloc (.cells #[.int .i64 a, .string b, .slice A2 q.length c2, .slice A3 d.length c3] 32) = w3 := ⟨_, rfl⟩
  rw [hw3] at hbN hB3 hC23 hC33 ⊢
  rw [hbn] at hbN ⊢
  clear hC2 hC3 hU3 hw3 hbn hBn hsn
  have k0 := cell_of (i := 0) hbN rfl
  have k1 := cell_of (i := 1) hbN rfl
  have k2 := cell_of (i := 2) hbN rfl
  have k3 := cell_of (i := 3) hbN rfl
  cases hm : mayF ⟨a, b, q, d⟩ 1 with
  | false =>
    obtain ⟨k, hk⟩ := seed_not hsm hcnt hm
    obtain ⟨f1, f2⟩ := hk k (Nat.le_refl _)
    have hcT := jtree_Text.calls k a b A2 c2 q A3 c3 d _ _ w3 hC23 hc2 hC33 hc3 f1 (HTAB.below hB3)
    clear hk hm hsm hcnt f1 f2
    go_upto_region 4 with (go_at_call 13; refine hcT.mono ?_; rintro e w4 ⟨rfl, hb4⟩; have hB4 := below_step hB3 hb4; clear hb4)
    have hwc := signetrylaw14_works.calls 60 true _ hwk (HTAB.below hB4)
    go_wp2_with (go_at_call 11; refine hwc.mono ?_; rintro e w5 ⟨rfl, hb5⟩; have hB5 := below_step hB4 hb5; clear hb5)
    go_ret
    exact ⟨rfl, hB5⟩
  | true =>
    obtain ⟨k, hk⟩ := seed_may hsm hcnt hm
    obtain ⟨f1, f2, f3, f4⟩ := hk k (Nat.le_refl _)
    have hcut := fun h => cut_facts hsm hcnt hm h
    obtain ⟨tx, htx⟩ : ∃ tx, wriF ⟨a, b, q, d⟩ = tx := ⟨_, rfl⟩
    rw [htx] at f1 hcut
    have hcT := jtree_Text.calls k a b A2 c2 q A3 c3 d _ _ w3 hC23 hc2 hC33 hc3 f1 (HTAB.below hB3)
    clear hk hm hsm hcnt f1 f2 f3 f4 htx
    go_upto_region 4 with (go_at_call 13; refine hcT.mono ?_; rintro e w4 ⟨rfl, hb4⟩; have hB4 := below_step hB3 hb4; have hbN4 := blk_below hbN hb4; clear hb4)
    have hwc := signetrylaw14_works.calls 60 true _ hwk (HTAB.below hB4)
    clear k0 k1 k2 k3 hcT hB3 hbN hC23 hC33
    have u0 := cell_of (i := 0) hbN4 rfl
    by_cases h4 : a = 4
    · have h4b : (a == 4) = true := beq_iff_eq.mpr h4
      clear hcut
      go_wp2_with (go_at_call 11; refine hwc.mono ?_; rintro e w5 ⟨rfl, hb5⟩; have hB5 := below_step hB4 hb5; clear hb5)
      go_ret
      exact ⟨rfl, hB5⟩
    · have h4b : (a == 4) = false := beq_eq_false_iff_ne.mpr h4
      obtain ⟨hpos, hmax, hcut⟩ := hcut h4
      clear hwc
      have hem : tx.toList.isEmpty = false := by
        rw [ByteArray.toList_eq]
        have h1 : tx.data.toList.length = tx.size := rfl
        cases h2 : tx.data.toList with
        | nil => rw [h2] at h1; simp at h1; omega
        | cons y t => rfl
      have hbz := bringZ_bd x (tx.size : Int) (by omega)
      have hbr := signetryref00_Bring.calls x (tx.size : Int) (bringZ x (tx.size : Int)) w4 (bring_z x _ (by omega) (by omega))
      obtain ⟨kk, hkk⟩ : ∃ kk : Nat, bringZ x (tx.size : Int) = (kk : Int) := ⟨(bringZ x (tx.size : Int)).toNat, by omega⟩
      rw [hkk] at hbr hbz
      obtain ⟨p, hf, hp0, hp1, hp34⟩ := hcut kk (by omega)
      have hkl : (kk : Int) ≤ (tx.size : Int) := by omega
      have hk0 : (0 : Int) ≤ (kk : Int) := by omega
      clear hcut
      go_upto_region 9 with (go_at_call 7; refine hbr.mono ?_; rintro e w5 ⟨rfl, ⟨nq, rfl⟩⟩; have hB5 := pw_below_drewN hB4 nq)
      have hcP := jtree_Parse.calls 0 (tx.extract 0 kk) 0 ⟨#[]⟩ [] [] p 140 (w4.drewN nq) (hf 0) (HTAB.below hB5)
      have hkt : ((kk : Int)).toNat = kk := Int.toNat_natCast kk
      clear hf hbr hkk
      go_upto_region 10 with (go_at_call 10; refine hcP.mono ?_; rintro e w6 ⟨v2, v3, rfl, hr2, hr3, hb6⟩; obtain ⟨B2, e2, rfl, he2, hD2⟩ := Kd.R_reads hr2; obtain ⟨B3, e3, rfl, he3, hD3⟩ := Kd.R_reads hr3; have hB6 := below_step hB5 hb6; clear hb6 hr2 hr3 hD2 hD3)
      have hB7 := below_alloc hB6 (.cells #[.int .i64 0, .string ⟨#[]⟩, .slice B2 0 e2, .slice B3 0 e3] 32)
      have hwc := signetrylaw14_works.calls 60 true _ hwk (HTAB.below hB7)
      have hle : decide (p ≤ (kk : Int)) = true := decide_eq_true hp1
      have hps : p ≤ (tx.size : Int) := by omega
      by_cases hpk : p = (kk : Int)
      · have hpb : (p == (kk : Int)) = true := beq_iff_eq.mpr hpk
        clear hp34
        go_wp2_with (go_at_call 11; refine hwc.mono ?_; rintro e w8 ⟨rfl, hb8⟩; have hB8 := below_step hB7 hb8; clear hb8)
        go_ret
        exact ⟨rfl, hB8⟩
      · have hpb : (p == (kk : Int)) = false := beq_eq_false_iff_ne.mpr hpk
        have hpl : p < (tx.size : Int) := by omega
        have h34 : ((tx[p.toNat]'(by omega)).toNat : Int) = 34 := (bt_at tx p (by omega)).trans (hp34 hpk)
        clear hp34
        go_wp2_with (go_at_call 11; refine hwc.mono ?_; rintro e w8 ⟨rfl, hb8⟩; have hB8 := below_step hB7 hb8; clear hb8)
        go_ret
        exact ⟨rfl, hB8⟩
end Go.Proofs.YtodnggilomanbaaDoor.Hand
