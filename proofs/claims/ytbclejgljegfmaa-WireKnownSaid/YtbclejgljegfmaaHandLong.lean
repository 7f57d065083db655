/-
  wire's reader: bytes behind a tag; and the parts by their kinds.
-/
import Derived.Test.YtbclejgljegfmaaAp
import Derived.Test.YtbclejgljegfmaaHandTake
import Derived.IntWalk
set_option maxRecDepth 100000
set_option maxHeartbeats 1000000
namespace Go.Proofs.Ytbclejgljegfmaa.Hand
open Go.RowKit Go.Proofs.YtbclejgljegfmaaW.PrintWords
section
variable (g : Nat) (A : Option Addr) (c : Nat) (l : List Int) (at0 : Nat) (num wire : Int) (Raw : Value) (w : World)

theorem clone_at {n c : Nat} {A' : Option Addr} {r : List Int} {w1 : World} (h : (Kd.int .u8).C w1 A' n r) (hn : n ≤ 1099511627776) (hc : n ≤ c) :
    Calls Try.prog 49 #[.slice A' n c] w1 fun e w' => ∃ v0_ : Value, e = .returned v0_ ∧ Kd.R (Kd.int .u8) 5 w' w1.heap.size (fun _ => True) v0_ r ∧ Below w1.heap.size w1 w' := by
  have hl := h.1
  subst hl
  exact aG.calls A' c r r w1 h hc (by unfold aG.f; rw [if_pos (by omega)])
theorem body_two (r : List Int) : body 2 r = (if (rdn r 0 0).2.2 ≠ 0 then (0, [], 0, (rdn r 0 0).2.2)
    else if (rdn r 0 0).1 > 1048576 then (0, [], 0, 5)
    else if (rdn r 0 0).1 > (r.length : Int) - ((rdn r 0 0).2.1 : Int) then (0, [], 0, 3)
    else (0, (r.drop (rdn r 0 0).2.1).take (rdn r 0 0).1.toNat, (rdn r 0 0).2.1 + (rdn r 0 0).1.toNat, 0)) := rfl
theorem Rdr.R_setB {W : World} {at_ N e : Int} {b B v : Value} {ok : Nat → Prop} {base : Nat} {xs : List Int} (h : Rdr W g b at_ num wire N B Raw e) (hR : (Kd.int .u8).R 5 W base ok v xs) (j : Nat) (u : Value) : (Kd.int .u8).R 5 (W.setCell ⟨g, j, none⟩ u) base ok v xs :=
  Kd.R_set hR h p246z j u

theorem long_walk (hR : Rdr w g (.slice A l.length c) at0 num 2 0 (.slice none 0 0) Raw 0) (hC : (Kd.int .u8).C w A l.length l) (hc : l.length ≤ c) (hne : 0 < l.length → ∀ b, A = some b → b.block ≠ g) (hat : at0 ≤ l.length) (hB : isB l = true) (hl : l.length ≤ 1099511627776) :
 Calls Try.prog 46 #[.pointer (some ⟨g, 0, none⟩)] w (PartAns l c at0 A num 2 Raw g w (body 2 (l.drop at0))) := by
 have HB := hid (body_two (l.drop at0))
 have hnum := hid (gQ g A c l at0 num 2 0 (.slice none 0 0) Raw w hR hC hne hat hB hl)
 have hrg := rdn_range (l.drop at0) 0 0 (isB_drop at0 hB) (by omega) (by omega) (by decide)
 have HP := hid fun hz => rdn_pre (l.drop at0) 0 0 (rdn (l.drop at0) 0 0).1 (rdn (l.drop at0) 0 0).2.1 hz
 have HC := hid hC
 have HNE := hid hne
 obtain ⟨n, hn⟩ : ∃ n, n = (rdn (l.drop at0) 0 0).1 := ⟨_, rfl⟩
 obtain ⟨er, her⟩ : ∃ er, er = (rdn (l.drop at0) 0 0).2.2 := ⟨_, rfl⟩
 unfold NumAns at hnum
 have HN := hid hn
 have HER := hid her
 rw [← hn, ← her] at hrg
 rw [← hn, ← her] at hnum
 clear hR hC hne hB hn her
 obtain ⟨hn0, hn1, her⟩ := hrg
 have HN1 := hid hn1
 clear hn1
 go_enter Try.func46, Try.ntmps46
 go_wp2_with fail
 refine hnum.out.mono ?_
 rintro e w1 ⟨rfl, hg1, at1, hR1, ha1, hk1⟩
 obtain ⟨h0, h1, -, -, h4, -, -, h7⟩ := hR1.cells
 have hfr1 := hR1.frozen
 by_cases hez : er = 0
 case neg =>
  clear hk1
  rcases her with rfl | rfl | rfl
  ·exact absurd rfl hez
  all_goals
   clear hez
   go_wp2
   go_end0
   rw [HB.out, ← HER.out, if_pos (by decide)]
   exact ⟨rfl, hg1, at1, _, _, hR1, ha1, fun h => absurd h (by decide)⟩
 subst hez
 have HK := hid (hk1 rfl)
 clear hk1 her
 by_cases hbig : 1048576 < n
 case pos =>
  go_wp2
  go_end0
  rw [HB.out, ← HER.out, ← HN.out, if_neg (by omega), if_pos hbig]
  exact ⟨rfl, bh hg1 (set_grown _ _ _ _), at1, _, _, hR1.setE _, ha1, by simp⟩
 have hsub : 0 ≤ (l.length : Int) - at1 := by omega
 have hw1 : IntKind.i64.wrap ((l.length : Int) - at1) = (l.length : Int) - at1 := IntWalk.i64_in _ (by omega)
 have hw2 : IntKind.u64.wrap ((l.length : Int) - at1) = (l.length : Int) - at1 := eM hsub (by omega)
 have hw3 : IntKind.i64.wrap n = n := IntWalk.i64_in _ (by omega)
 by_cases hfit : (l.length : Int) - at1 < n
 case pos =>
  have hcnt : ((rdn (l.drop at0) 0 0).1 > ((l.drop at0).length : Int) - ((rdn (l.drop at0) 0 0).2.1 : Int)) := by rw [← HN.out, List.length_drop]; have := HK.out; omega
  go_wp2
  go_quiet (fail)
  go_wp2
  go_end0
  rw [HB.out, ← HER.out, if_neg (by omega), if_neg (by rw [← HN.out]; omega), if_pos hcnt]
  exact ⟨rfl, bh (bh hg1 (da _ _ _)) (set_grown _ _ _ _), at1, _, _, (hR1.drewN _).setE _, ha1, by simp⟩
 have hcnt : ¬ ((rdn (l.drop at0) 0 0).1 > ((l.drop at0).length : Int) - ((rdn (l.drop at0) 0 0).2.1 : Int)) := by rw [← HN.out, List.length_drop]; have := HK.out; omega
 have HT0 : ∃ q : Nat, Hid (n = q) ∧ Hid (∀ nq, Calls Try.prog 57 #[.pointer (some ⟨g, 0, none⟩), .int .i64 n] (w1.drewN nq) (TakeOk l c at1 q A num 2 0 (.slice none 0 0) Raw g (w1.drewN nq))) ∧ at1 + q ≤ l.length ∧ q ≤ 1099511627776 := by
  obtain ⟨q, rfl⟩ := Int.eq_ofNat_of_zero_le hn0
  exact ⟨q, hid rfl, hid fun nq => take_ok g A c l at1 q num 2 0 (.slice none 0 0) Raw (w1.drewN nq) (hR1.drewN nq) (C_grown HC.out HNE.out (bh hg1 (da _ nq _))) hc HNE.out (by omega) hl, by omega, by omega⟩
 obtain ⟨q, HQ, HT, haq, hql⟩ := HT0
 have HCNT := hid hcnt
 have HBIG := hid hbig
 clear hcnt
 go_wp2
 go_quiet (fail)
 clear hw1 hw2
 go_wp2_with fail
 refine (HT.out _).mono ?_
 rintro e w2 ⟨A', rfl, hC2, hg2, hR2⟩
 have HCL := hid (clone_at hC2 hql (Nat.le_refl _))
 clear hC2
 go_wp2_with fail
 refine HCL.out.mono ?_
 rintro e w3 ⟨v3, rfl, hr3, hb3⟩
 obtain ⟨A3, c3, hv3⟩ := Kd.R_slice hr3
 rw [show ((l.drop at1).take q).length = q from p205z] at hv3
 subst hv3
 have hR3 := hR2.grown (r := none) (grown_of_below hb3 none) (by simp)
 obtain ⟨-, -, -, -, -, h5, -⟩ := hR3.cells
 have hfr3 := hR3.frozen
 go_wp2
 go_end0
 rw [HB.out, ← HER.out, if_neg (by omega), if_neg (by rw [← HN.out]; have := HBIG.out; omega), if_neg (by have := HCNT.out; omega), ← HN.out, HQ.out, Int.toNat_natCast]
 refine ⟨rfl, bh (bh (bh (bh hg1 (da _ _ _)) hg2) (grown_of_below hb3 _)) (set_grown _ _ _ _), at1 + q, _, _, hR3.setB _, by omega, fun _ => ⟨by have := HK.out; simp only; omega, rfl, ?_⟩⟩
 have h1s := hg1.size
 have h2s := hg2.size
 rw [show (l.drop at0).drop (rdn (l.drop at0) 0 0).2.1 = l.drop at1 by rw [List.drop_drop, HK.out]]
 exact Rdr.R_setB g num 2 Raw hR3 (Kd.R_lower hr3 (show w.heap.size ≤ w2.heap.size by simp at h2s; omega)) 5 _
end
end Go.Proofs.Ytbclejgljegfmaa.Hand
