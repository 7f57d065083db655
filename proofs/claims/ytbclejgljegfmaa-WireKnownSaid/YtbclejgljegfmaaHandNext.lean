/-
  wire.Next: the walk.
-/
import Derived.Test.YtbclejgljegfmaaAp
import Derived.Test.YtbclejgljegfmaaHandLong
import Derived.StillTailTactics
import Derived.Laws.EntriesVeiled
set_option maxRecDepth 100000
set_option maxHeartbeats 4000000
namespace Go.Proofs.Ytbclejgljegfmaa.Hand
open Go.RowKit Go.Proofs.YtbclejgljegfmaaW.PrintWords

theorem kJ (g : Nat) (A : Option Addr) (c : Nat) (l : List Int) (at0 : Nat) (num : Int) (k : Nat) (Raw : Value) (w : World) (hk : k < 8) (hR : Rdr w g (.slice A l.length c) at0 num k 0 (.slice none 0 0) Raw 0) (hC : (Kd.int .u8).C w A l.length l) (hc : l.length ≤ c) (hne : 0 < l.length → ∀ b, A = some b → b.block ≠ g) (hat : at0 ≤ l.length) (hB : isB l = true) (hl : l.length ≤ 1099511627776) :
    Calls Try.prog ([44, 45, 46, 47, 47, 48, 47, 47].getD k 0) #[.pointer (some ⟨g, 0, none⟩)] w (PartAns l c at0 A num k Raw g w (body k (l.drop at0))) := by
  match k, hk, hR with
  | 0, _, hR => exact kH g A c l at0 num Raw w hR hC hne hat hB hl
  | 1, _, hR => exact wide_walk g A c l at0 num Raw w hR hC hc hne hat hB hl
  | 2, _, hR => exact long_walk g A c l at0 num Raw w hR hC hc hne hat hB hl
  | 3, _, hR => exact none_walk g A c l at0 num 3 Raw w 0 (.slice none 0 0) hR hat (by decide)
  | 4, _, hR => exact none_walk g A c l at0 num 4 Raw w 0 (.slice none 0 0) hR hat (by decide)
  | 5, _, hR => exact kb g A c l at0 num Raw w hR hC hc hne hat hB hl
  | 6, _, hR => exact none_walk g A c l at0 num 6 Raw w 0 (.slice none 0 0) hR hat (by decide)
  | 7, _, hR => exact none_walk g A c l at0 num 7 Raw w 0 (.slice none 0 0) hR hat (by decide)

/-- What is answered. -/
def NextAns (t : NextR) (w : World) (e : Ending) (w' : World) : Prop :=
  ∃ v3 v4 : Value, e = .returned (.tuple #[.agg #[.int .i64 t.1, .int .i64 t.2.1, .int .u64 t.2.2.1, v3, v4], .int .i64 t.2.2.2.2.2.1, .int .i64 t.2.2.2.2.2.2]) ∧ Kd.R (Kd.int .u8) 5 w' w.heap.size (fun k_ => some k_ ≠ (v4 : Value).ownBlock) v3 t.2.2.2.1 ∧ Kd.R (Kd.int .u8) 5 w' w.heap.size (fun k_ => some k_ ≠ (v3 : Value).ownBlock) v4 t.2.2.2.2.1 ∧ Below w.heap.size w w'
/-- The variable of the record that is answered. -/
def Rec5 (W : World) (D : Nat) (a b n : Int) (v3 v4 : Value) : Prop := W.heap[D]? = some (.cells #[.int .i64 a, .int .i64 b, .int .u64 n, v3, v4] 33 (0, 0))
abbrev Res (W : World) (D : Nat) : Prop := Rec5 W D 0 0 0 (.slice none 0 0) (.slice none 0 0)
section
variable {W W1 : World} {D : Nat} {a b n : Int} {v3 v4 : Value}
theorem Rec5.grown {r : Option Nat} (h : Rec5 W D a b n v3 v4) (hg : W.grownBy W1 r) (hne : some D ≠ r) : Rec5 W1 D a b n v3 v4 := blk_grown h hg hne
theorem Rec5.drewN (h : Rec5 W D a b n v3 v4) (m : Nat) : Rec5 (W.drewN m) D a b n v3 v4 := h
theorem Rec5.drew (h : Rec5 W D a b n v3 v4) : Rec5 W.drew D a b n v3 v4 := h
theorem Rec5.cells (h : Rec5 W D a b n v3 v4) : W.cell? ⟨D, 0, none⟩ = some (.int .i64 a) ∧ W.cell? ⟨D, 1, none⟩ = some (.int .i64 b) ∧ W.cell? ⟨D, 2, none⟩ = some (.int .u64 n) ∧ W.cell? ⟨D, 3, none⟩ = some v3 ∧ W.cell? ⟨D, 4, none⟩ = some v4 := by
  have : ∀ j, W.cell? ⟨D, j, none⟩ = (#[.int .i64 a, .int .i64 b, .int .u64 n, v3, v4] : Array Value)[j]? := fun j => blk_cell h j
  exact ⟨this 0, this 1, this 2, this 3, this 4⟩
theorem Rec5.frozen (h : Rec5 W D a b n v3 v4) (j : Nat) : W.frozen? ⟨D, j, none⟩ = false := by
  simp only [World.frozen?, Rec5] at *
  simp [h]
theorem Rec5.set (h : Rec5 W D a b n v3 v4) (a' b' n' : Int) (u3 u4 : Value) :
    Rec5 (((((W.setCell ⟨D, 0, none⟩ (.int .i64 a')).setCell ⟨D, 1, none⟩ (.int .i64 b')).setCell ⟨D, 2, none⟩ (.int .u64 n')).setCell ⟨D, 3, none⟩ u3).setCell ⟨D, 4, none⟩ u4) D a' b' n' u3 u4 := by
  have h1 := blk_set h 0 (.int .i64 a')
  have h2 := blk_set h1 1 (.int .i64 b')
  have h3 := blk_set h2 2 (.int .u64 n')
  have h4 := blk_set h3 3 u3
  have h5 := blk_set h4 4 u4
  simpa [Rec5] using h5
theorem Rec5.answers {tmps : Array Value} {p q : Value} (h : Rec5 W D a b n v3 v4) (h2 : tmps.getD 2 undef = .pointer (some ⟨D, 0, none⟩)) (h3 : tmps.getD 3 undef = p) (h4 : tmps.getD 4 undef = q) :
    (results Try.f24 tmps).run Try.prog W = .ok (.tuple #[.agg #[.int .i64 a, .int .i64 b, .int .u64 n, v3, v4], p, q]) W := by
  obtain ⟨d0, d1, d2, d3, d4⟩ := h.cells
  subst h3 h4
  rw [Array.getD_eq_getD_getElem?] at h2
  simp [results, Try.f24, h2, go_sem, d0, d1, d2, d3, d4]
end
theorem ff {w W : World} {n0 D : Nat} {x0 x1 x2 x3 x4 : Value} (h : Below n0 w W) (hD : n0 ≤ D) :
    Below n0 w (((((W.setCell ⟨D, 0, none⟩ x0).setCell ⟨D, 1, none⟩ x1).setCell ⟨D, 2, none⟩ x2).setCell ⟨D, 3, none⟩ x3).setCell ⟨D, 4, none⟩ x4) :=
  ((((h.setCell (p := ⟨D, 0, none⟩) hD _).setCell (p := ⟨D, 1, none⟩) hD _).setCell (p := ⟨D, 2, none⟩) hD _).setCell (p := ⟨D, 3, none⟩) hD _).setCell (p := ⟨D, 4, none⟩) hD _
theorem and_seven {n : Int} (h0 : 0 ≤ n) (h1 : n < 2 ^ 64) : ∃ k : Nat, k < 8 ∧ bits .and .u64 n 7 = k ∧ Hid (n % 8 = k) := by
  obtain ⟨m, rfl⟩ := Int.eq_ofNat_of_zero_le h0
  refine ⟨m % 8, by omega, ?_, hid (by omega)⟩
  have hm : m < 2 ^ 64 := by exact_mod_cast h1
  have hx : m &&& 7 ≤ 7 := Nat.and_le_right
  show IntKind.u64.wrap ((BitVec.ofInt 64 (m : Int) &&& BitVec.ofInt 64 ((7 : Nat) : Int)).toNat : Int) = _
  rw [BitVec.toNat_and, ofInt_u64 m hm, ofInt_u64 7 (by decide)]
  rw [eM (by omega) (by omega), show (7 : Nat) = 2 ^ 3 - 1 from rfl, Nat.and_two_pow_sub_one_eq_mod]
theorem kK (w : World) (g k : Nat) (hk : k < 8) : (w.alloc (.cells #[.func (.func 44) #[.pointer (some ⟨g, 0, none⟩)] #[], .func (.func 45) #[.pointer (some ⟨g, 0, none⟩)] #[], .func (.func 46) #[.pointer (some ⟨g, 0, none⟩)] #[], .func (.func 47) #[.pointer (some ⟨g, 0, none⟩)] #[], .func (.func 47) #[.pointer (some ⟨g, 0, none⟩)] #[], .func (.func 48) #[.pointer (some ⟨g, 0, none⟩)] #[], .func (.func 47) #[.pointer (some ⟨g, 0, none⟩)] #[], .func (.func 47) #[.pointer (some ⟨g, 0, none⟩)] #[]] 70)).cell? ⟨w.heap.size, k, none⟩ = some (.func (.func ([44, 45, 46, 47, 47, 48, 47, 47].getD k 0)) #[.pointer (some ⟨g, 0, none⟩)] #[]) := by
  rw [cell_of_row _ _ k _ 70 (0, 0) (World.alloc_heap_new w _)]
  match k, hk with
  | 0, _ => rfl
  | 1, _ => rfl
  | 2, _ => rfl
  | 3, _ => rfl
  | 4, _ => rfl
  | 5, _ => rfl
  | 6, _ => rfl
  | 7, _ => rfl
theorem kc (k : Nat) (hk : k < 8) : ∀ args w, (callFunc ([44, 45, 46, 47, 47, 48, 47, 47].getD k 0) args).run Try.prog w = .ok (.enter ([44, 45, 46, 47, 47, 48, 47, 47].getD k 0) args) w := by
  match k, hk with
  | 0, _ => exact enters_of Try.func44 p16z rfl
  | 1, _ => exact enters_of Try.func45 p16z rfl
  | 2, _ => exact enters_of Try.func46 p16z rfl
  | 3, _ => exact enters_of Try.func47 p16z rfl
  | 4, _ => exact enters_of Try.func47 p16z rfl
  | 5, _ => exact enters_of Try.func48 p16z rfl
  | 6, _ => exact enters_of Try.func47 p16z rfl
  | 7, _ => exact enters_of Try.func47 p16z rfl
theorem body_err (k : Nat) (r : List Int) (hB : isB r = true) : (body k r).2.2.2 = 0 ∨ (body k r).2.2.2 = 3 ∨ (body k r).2.2.2 = 4 ∨ (body k r).2.2.2 = 5 ∨ (body k r).2.2.2 = 10 := by
 have h := rdn_range r 0 0 hB (by omega) (by omega) (by decide)
 unfold body
 split
 ·have := h.2.2; simp only; omega
 split
 ·split <;> simp
 split
 ·split
  ·have := h.2.2; simp only; omega
  split
  ·simp
  split <;> simp
 split
 ·split <;> simp
 ·simp
theorem R_set5 {W : World} {D base : Nat} {a b n a' b' n' : Int} {v3 v4 u3 u4 v : Value} {ok : Nat → Prop} {xs : List Int} (h : Rec5 W D a b n v3 v4) (hR : (Kd.int .u8).R 5 W base ok v xs) :
    (Kd.int .u8).R 5 (((((W.setCell ⟨D, 0, none⟩ (.int .i64 a')).setCell ⟨D, 1, none⟩ (.int .i64 b')).setCell ⟨D, 2, none⟩ (.int .u64 n')).setCell ⟨D, 3, none⟩ u3).setCell ⟨D, 4, none⟩ u4).drew base ok v xs := by
  have ht : ∀ q, q ∈ 5 :: (Kd.int .u8).E → q ≠ 33 := p246z
  have h1 := blk_set h 0 (.int .i64 a')
  have h2 := blk_set h1 1 (.int .i64 b')
  have h3 := blk_set h2 2 (.int .u64 n')
  have h4 := blk_set h3 3 u3
  exact Kd.R_drew (Kd.R_set (Kd.R_set (Kd.R_set (Kd.R_set (Kd.R_set hR h ht 0 _) h1 ht 1 _) h2 ht 2 _) h3 ht 3 _) h4 ht 4 _)
theorem next_walk (A : Option Addr) (c : Nat) (l : List Int) (w : World) (hC : (Kd.int .u8).C w A l.length l) (hc : l.length ≤ c) (hB : isB l = true) (hl : l.length ≤ 1099511627776) :
 Calls Try.prog 24 #[.slice A l.length c] w (NextAns (nxt l) w) := by
 have hz33 : ∀ w, (zeroValue 33).run Try.prog w = .ok (.agg #[.int .i64 0, .int .i64 0, .int .u64 0, .slice none 0 0, .slice none 0 0]) w := fun w => p16z

 have HC := hid hC
 have HB := hid hB
 clear hC hB
 go_enter Try.func24, Try.ntmps24
 go_wp2_with fail
 obtain ⟨w0, hw0⟩ : ∃ w0, w0 = (w.alloc (.cells #[.int .i64 0, .int .i64 0, .int .u64 0, .slice none 0 0, .slice none 0 0] 33)).alloc (.cells #[.slice A l.length c, .int .i64 0, .int .i64 0, .int .i64 0, .int .u64 0, .slice none 0 0, .slice none 0 0, .int .i64 0] 68) := ⟨_, rfl⟩
 rw [← hw0]
 obtain ⟨g, hgd⟩ : ∃ g, g = w.heap.size + 1 := ⟨_, rfl⟩
 rw [← hgd]
 have hR0 : Rdr w0 g (.slice A l.length c) (0 : Nat) 0 0 0 (.slice none 0 0) (.slice none 0 0) 0 := by
  have := World.alloc_heap_new (w.alloc (.cells #[.int .i64 0, .int .i64 0, .int .u64 0, .slice none 0 0, .slice none 0 0] 33)) (.cells #[.slice A l.length c, .int .i64 0, .int .i64 0, .int .i64 0, .int .u64 0, .slice none 0 0, .slice none 0 0, .int .i64 0] 68)
  rw [World.size_alloc, ← hw0, ← hgd] at this
  exact this
 have hD0 : Res w0 w.heap.size := by
  rw [hw0]
  exact (Below.heap_alloc _ _ _ (by simp)).trans (World.alloc_heap_new w _)
 have hB0 : Below w.heap.size w w0 := by rw [hw0]; exact ((Below.refl w.heap.size w).alloc (Nat.le_refl _) _).alloc (by simp) _
 have hC0 : (Kd.int .u8).C w0 A l.length l := Kd.C_below HC.out hB0
 have hne : 0 < l.length → ∀ b, A = some b → b.block ≠ g := by
  rintro hp b rfl rfl
  have hc := Kd.foot_int HC.out 0 (by omega) (by omega)
  have hlt := World.block_lt_of_cell? w _ hc
  have : (b.add (0 : Int).toNat).block = b.block := by unfold Addr.add; split <;> rfl
  rw [this, hgd] at hlt
  omega
 have hnum := hid (gQ g A c l 0 0 0 0 (.slice none 0 0) (.slice none 0 0) w0 hR0 hC0 hne (Nat.zero_le _) HB.out hl)
 have hrg := rdn_range l 0 0 HB.out (by omega) (by omega) (by decide)
 unfold NumAns at hnum
 rw [List.drop_zero] at hnum
 obtain ⟨n, hn⟩ : ∃ n, n = (rdn l 0 0).1 := ⟨_, rfl⟩
 obtain ⟨er, her⟩ : ∃ er, er = (rdn l 0 0).2.2 := ⟨_, rfl⟩
 have HN := hid hn
 have HER := hid her
 rw [← hn, ← her] at hrg hnum
 have HNE := hid hne
 have HG := hid hgd
 clear hw0 hC0 hn her hne hR0 hgd
 obtain ⟨hn0, hn1, her⟩ := hrg
 have HN1 := hid hn1
 clear hn1
 refine hnum.out.mono ?_
 rintro e w1 ⟨rfl, hg1, at1, hR1, ha1, hk1⟩
 have hDg : w.heap.size ≠ g := by rw [HG.out]; omega
 have hD1 : Res w1 w.heap.size := hD0.grown hg1 (fun e => hDg (by cases e; rfl))
 have hB1 : Below w.heap.size w w1 := hB0.grown hg1 hB0.size (fun k e => by cases e; rw [HG.out]; exact Nat.le_succ _)
 obtain ⟨d0, d1, d2, d3, d4⟩ := hD1.cells
 have hdf := hD1.frozen
 obtain ⟨h0, h1, h2, h3, h4, h5, h6, h7⟩ := hR1.cells
 have hfr1 := hR1.frozen
 rcases her with rfl | rfl | rfl
 rotate_left
 ·have HNX := hid (show nxt l = noR 3 by unfold nxt; rw [← HER.out, if_pos (by decide)])
  clear hk1
  go_wp2
  go_region
  all_goals
   go_wp2
   refine bodyPost_ret ((((hD1.set 0 0 0 (.slice none 0 0) (.slice none 0 0)).drew)).answers rfl rfl rfl) rfl ?_
   rw [HNX.out]
   exact ⟨.slice none 0 0, .slice none 0 0, rfl, Kd.R_nil _ _ _ _ _, Kd.R_nil _ _ _ _ _, (ff hB1 (Nat.le_refl _)).drew⟩
 ·have HNX := hid (show nxt l = noR 4 by unfold nxt; rw [← HER.out, if_pos (by decide)])
  clear hk1
  go_wp2
  go_region
  all_goals
   go_wp2
   refine bodyPost_ret ((((hD1.set 0 0 0 (.slice none 0 0) (.slice none 0 0)).drew)).answers rfl rfl rfl) rfl ?_
   rw [HNX.out]
   exact ⟨.slice none 0 0, .slice none 0 0, rfl, Kd.R_nil _ _ _ _ _, Kd.R_nil _ _ _ _ _, (ff hB1 (Nat.le_refl _)).drew⟩
 have HK := hid (hk1 rfl)
 clear hk1
 by_cases hsm : n < 8
 case pos =>
  have HNX := hid (show nxt l = noR 4 by unfold nxt; rw [← HER.out, ← HN.out, if_neg (by decide), if_pos (.inl hsm)])
  have hq : n / 8 = 0 := by omega
  go_wp2
  have hR2 := hR1.setE 4
  have hD2 : Res (w1.setCell ⟨g, 7, none⟩ (.int .i64 4)) w.heap.size := hD1.grown (set_grown w1 g 7 _) (fun e => hDg (by cases e; rfl))
  have hB2 : Below w.heap.size w (w1.setCell ⟨g, 7, none⟩ (.int .i64 4)) := hB1.setCell (p := ⟨g, 7, none⟩) p249z _
  generalize w1.setCell ⟨g, 7, none⟩ (.int .i64 4) = w2 at hR2 hD2 hB2 ⊢
  obtain ⟨d0, d1, d2, d3, d4⟩ := hD2.cells
  have hdf := hD2.frozen
  obtain ⟨h0, h1, h2, h3, h4, h5, h6, h7⟩ := hR2.cells
  have hfr1 := hR2.frozen
  go_region
  all_goals
   go_wp2
   refine bodyPost_ret ((((hD2.set 0 0 0 (.slice none 0 0) (.slice none 0 0)).drew)).answers rfl rfl rfl) rfl ?_
   rw [HNX.out]
   exact ⟨.slice none 0 0, .slice none 0 0, rfl, Kd.R_nil _ _ _ _ _, Kd.R_nil _ _ _ _ _, (ff hB2 (Nat.le_refl _)).drew⟩
 by_cases hbg : 4294967295 < n
 case pos =>
  have HNX := hid (show nxt l = noR 4 by unfold nxt; rw [← HER.out, ← HN.out, if_neg (by decide), if_pos (.inr hbg)])
  have hq1 : 1 ≤ n / 8 := by omega
  have hq2 : 536870911 < n / 8 := by omega
  go_wp2
  have hR2 := hR1.setE 4
  have hD2 : Res (w1.setCell ⟨g, 7, none⟩ (.int .i64 4)) w.heap.size := hD1.grown (set_grown w1 g 7 _) (fun e => hDg (by cases e; rfl))
  have hB2 : Below w.heap.size w (w1.setCell ⟨g, 7, none⟩ (.int .i64 4)) := hB1.setCell (p := ⟨g, 7, none⟩) p249z _
  generalize w1.setCell ⟨g, 7, none⟩ (.int .i64 4) = w2 at hR2 hD2 hB2 ⊢
  obtain ⟨d0, d1, d2, d3, d4⟩ := hD2.cells
  have hdf := hD2.frozen
  obtain ⟨h0, h1, h2, h3, h4, h5, h6, h7⟩ := hR2.cells
  have hfr1 := hR2.frozen
  go_region
  all_goals
   go_wp2
   refine bodyPost_ret ((((hD2.set 0 0 0 (.slice none 0 0) (.slice none 0 0)).drew)).answers rfl rfl rfl) rfl ?_
   rw [HNX.out]
   exact ⟨.slice none 0 0, .slice none 0 0, rfl, Kd.R_nil _ _ _ _ _, Kd.R_nil _ _ _ _ _, (ff hB2 (Nat.le_refl _)).drew⟩
 have hq1 : 1 ≤ n / 8 := by omega
 have hq2 : ¬ 536870911 < n / 8 := by omega
 have hw1 : IntKind.i64.wrap (n / 8) = n / 8 := IntWalk.i64_in _ (by omega)
 obtain ⟨k, hk8, hand, HK8⟩ : ∃ k : Nat, k < 8 ∧ bits .and .u64 n 7 = k ∧ Hid (n % 8 = k) := and_seven hn0 HN1.out
 go_upto_region 9 with (fail)
 have hR2 := (hR1.setNum (n / 8)).setWire k
 have hD2 : Res ((w1.setCell ⟨g, 2, none⟩ (.int .i64 (n / 8))).setCell ⟨g, 3, none⟩ (.int .i64 k)) w.heap.size := hD1.grown (bh (set_grown w1 g 2 _) (set_grown _ g 3 _)) (fun e => hDg (by cases e; rfl))
 have hB2 : Below w.heap.size w ((w1.setCell ⟨g, 2, none⟩ (.int .i64 (n / 8))).setCell ⟨g, 3, none⟩ (.int .i64 k)) := (hB1.setCell (p := ⟨g, 2, none⟩) p249z _).setCell (p := ⟨g, 3, none⟩) p249z _
 have hz2 : ((w1.setCell ⟨g, 2, none⟩ (.int .i64 (n / 8))).setCell ⟨g, 3, none⟩ (.int .i64 k)).heap.size = w1.heap.size := by simp
 generalize (w1.setCell ⟨g, 2, none⟩ (.int .i64 (n / 8))).setCell ⟨g, 3, none⟩ (.int .i64 k) = w2 at hR2 hD2 hB2 hz2 ⊢
 rw [← hz2]
 clear hz2
 obtain ⟨f, hf⟩ : ∃ f, f = [44, 45, 46, 47, 47, 48, 47, 47].getD k 0 := ⟨_, rfl⟩
 have hfc : (w2.alloc (.cells #[.func (.func 44) #[.pointer (some ⟨g, 0, none⟩)] #[], .func (.func 45) #[.pointer (some ⟨g, 0, none⟩)] #[], .func (.func 46) #[.pointer (some ⟨g, 0, none⟩)] #[], .func (.func 47) #[.pointer (some ⟨g, 0, none⟩)] #[], .func (.func 47) #[.pointer (some ⟨g, 0, none⟩)] #[], .func (.func 48) #[.pointer (some ⟨g, 0, none⟩)] #[], .func (.func 47) #[.pointer (some ⟨g, 0, none⟩)] #[], .func (.func 47) #[.pointer (some ⟨g, 0, none⟩)] #[]] 70)).cell? ⟨w2.heap.size, k, none⟩ = some (.func (.func f) #[.pointer (some ⟨g, 0, none⟩)] #[]) := by
  rw [hf]
  exact kK w2 g k hk8
 have hR3 := hR2.grown (World.grownBy_alloc w2 (.cells #[.func (.func 44) #[.pointer (some ⟨g, 0, none⟩)] #[], .func (.func 45) #[.pointer (some ⟨g, 0, none⟩)] #[], .func (.func 46) #[.pointer (some ⟨g, 0, none⟩)] #[], .func (.func 47) #[.pointer (some ⟨g, 0, none⟩)] #[], .func (.func 47) #[.pointer (some ⟨g, 0, none⟩)] #[], .func (.func 48) #[.pointer (some ⟨g, 0, none⟩)] #[], .func (.func 47) #[.pointer (some ⟨g, 0, none⟩)] #[], .func (.func 47) #[.pointer (some ⟨g, 0, none⟩)] #[]] 70) none) (by simp)
 have hD3 := hD2.grown (World.grownBy_alloc w2 (.cells #[.func (.func 44) #[.pointer (some ⟨g, 0, none⟩)] #[], .func (.func 45) #[.pointer (some ⟨g, 0, none⟩)] #[], .func (.func 46) #[.pointer (some ⟨g, 0, none⟩)] #[], .func (.func 47) #[.pointer (some ⟨g, 0, none⟩)] #[], .func (.func 47) #[.pointer (some ⟨g, 0, none⟩)] #[], .func (.func 48) #[.pointer (some ⟨g, 0, none⟩)] #[], .func (.func 47) #[.pointer (some ⟨g, 0, none⟩)] #[], .func (.func 47) #[.pointer (some ⟨g, 0, none⟩)] #[]] 70) none) (by simp)
 have hB3 := hB2.alloc hB2.size (.cells #[.func (.func 44) #[.pointer (some ⟨g, 0, none⟩)] #[], .func (.func 45) #[.pointer (some ⟨g, 0, none⟩)] #[], .func (.func 46) #[.pointer (some ⟨g, 0, none⟩)] #[], .func (.func 47) #[.pointer (some ⟨g, 0, none⟩)] #[], .func (.func 47) #[.pointer (some ⟨g, 0, none⟩)] #[], .func (.func 48) #[.pointer (some ⟨g, 0, none⟩)] #[], .func (.func 47) #[.pointer (some ⟨g, 0, none⟩)] #[], .func (.func 47) #[.pointer (some ⟨g, 0, none⟩)] #[]] 70)
 generalize w2.alloc (.cells #[.func (.func 44) #[.pointer (some ⟨g, 0, none⟩)] #[], .func (.func 45) #[.pointer (some ⟨g, 0, none⟩)] #[], .func (.func 46) #[.pointer (some ⟨g, 0, none⟩)] #[], .func (.func 47) #[.pointer (some ⟨g, 0, none⟩)] #[], .func (.func 47) #[.pointer (some ⟨g, 0, none⟩)] #[], .func (.func 48) #[.pointer (some ⟨g, 0, none⟩)] #[], .func (.func 47) #[.pointer (some ⟨g, 0, none⟩)] #[], .func (.func 47) #[.pointer (some ⟨g, 0, none⟩)] #[]] 70) = w3 at hfc hR3 hD3 hB3 ⊢
 generalize w2.heap.size = a at hfc ⊢
 have hC3 : (Kd.int .u8).C w3 A l.length l := Kd.C_below HC.out hB3
 have hpt := kJ g A c l at1 (n / 8) k (.slice none 0 0) w3 hk8 hR3 hC3 hc HNE.out ha1 HB.out hl
 rw [← hf] at hpt
 have HPT := hid hpt
 have hen : ∀ args w, (callFunc f args).run Try.prog w = .ok (.enter f args) w := by rw [hf]; exact kc k hk8
 clear hpt hf hC3 hR2 hD2 hB2 hw1
 obtain ⟨h0, h1, h2, h3, h4, h5, h6, h7⟩ := hR3.cells
 have hk8' : (k : Int) < 8 := by omega
 go_wp2_with fail
 refine HPT.out.mono ?_
 rintro e w4 ⟨rfl, hg4, at4, N4, B4, hR4, ha4, hk4⟩
 have hD4 : Res w4 w.heap.size := hD3.grown hg4 (fun e => hDg (by cases e; rfl))
 have hB4 : Below w.heap.size w w4 := hB3.grown hg4 hB3.size (fun k e => by cases e; rw [HG.out]; exact Nat.le_succ _)
 have hs4 := hg4.size
 have hs3 := hB3.size
 obtain ⟨t, ht⟩ : ∃ t, t = body k (l.drop at1) := ⟨_, rfl⟩
 have hter := body_err k (l.drop at1) (isB_drop at1 HB.out)
 rw [← ht] at hR4 hk4 hter
 have HT := hid ht
 obtain ⟨tn, tb, tc, te⟩ := t
 simp only at hR4 hk4 hter
 clear ht HPT h0 h1 h2 h3 h4 h5 h6 h7 d0 d1 d2 d3 d4 hdf hfr1 hR3 hD3 hB3 hfc hen hg4 hD1 hR1 hB1
 have HK4 := hid hk4
 clear hk4
 obtain ⟨d0, d1, d2, d3, d4⟩ := hD4.cells
 have hdf := hD4.frozen
 obtain ⟨h0, h1, h2, h3, h4, h5, h6, h7⟩ := hR4.cells
 have hfr1 := hR4.frozen
 rcases hter with rfl | hter
 ·obtain ⟨hat4, hN4, hRB⟩ := HK4.out rfl
  subst hN4
  have HNX := hid (show nxt l = (n / 8, (k : Int), N4, tb, l.take at4, (at4 : Int), 0) by
   unfold nxt
   rw [← HER.out, ← HN.out, if_neg (by decide), if_neg (by omega), HK8.out, show (rdn l 0 0).2.1 = at1 by have := HK.out; omega, ← HT.out, if_neg (by simp), hat4])
  clear hat4 HK4 HT HNE
  obtain ⟨mB, hmB⟩ : ∃ m, m = tb.length := ⟨_, rfl⟩
  obtain ⟨AB, cB, hvB⟩ := Kd.R_slice hRB
  rw [← hmB] at hvB
  subst hvB
  clear hmB
  have HRB := hid (Kd.R_lower hRB (show w.heap.size ≤ w3.heap.size from hs3))
  have HCL := hid (clone_at (c := c) (Kd.C_take (Kd.C_below HC.out hB4) ha4) p170z p170z)
  rw [show (l.take at4).length = at4 from p170z] at HCL
  clear hRB
  have ha4c : at4 ≤ c := by omega
  go_wp2_with fail
  refine HCL.out.mono ?_
  rintro e w5 ⟨v5, rfl, hr5, hb5⟩
  obtain ⟨A5, c5, hv5⟩ := Kd.R_slice hr5
  rw [show (l.take at4).length = at4 from p170z] at hv5
  subst hv5
  have hR5 := hR4.grown (r := none) (grown_of_below hb5 none) (by simp)
  have hD5 := hD4.grown (r := none) (grown_of_below hb5 none) (by simp)
  have hB5 : Below w.heap.size w w5 := hB4.trans (hb5.mono (by omega))
  have h35 := Kd.R_elder HRB.out hr5 hb5
  have h45 := Kd.R_lower (Kd.R_newR hr5 HRB.out) (show w.heap.size ≤ w4.heap.size by omega)
  have H35 := hid h35
  have H45 := hid h45
  clear h35 h45 hr5 hb5 HCL HRB
  obtain ⟨h0, h1, h2, h3, h4, h5, h6, h7⟩ := hR5.cells
  have hfr1 := hR5.frozen
  go_upto_region 13 with (fail)
  have hR6 := hR5.setRaw (.slice A5 at4 c5)
  have hD6 : Res (w5.setCell ⟨g, 6, none⟩ (.slice A5 at4 c5)) w.heap.size := hD5.grown (set_grown w5 g 6 _) (fun e => hDg (by cases e; rfl))
  have hB6 : Below w.heap.size w (w5.setCell ⟨g, 6, none⟩ (.slice A5 at4 c5)) := hB5.setCell (p := ⟨g, 6, none⟩) p249z _
  have H36 := hid (Kd.R_set H35.out hR5 p246z 6 (.slice A5 at4 c5))
  have H46 := hid (Kd.R_set H45.out hR5 p246z 6 (.slice A5 at4 c5))
  generalize w5.setCell ⟨g, 6, none⟩ (.slice A5 at4 c5) = w6 at hR6 hD6 hB6 H36 H46 ⊢
  clear hR5 hD5 hB5 H35 H45 h0 h1 h2 h3 h4 h5 h6 h7 d0 d1 d2 d3 d4 hfr1 hdf hR4 hD4 hB4
  obtain ⟨d0, d1, d2, d3, d4⟩ := hD6.cells
  have hdf := hD6.frozen
  obtain ⟨h0, h1, h2, h3, h4, h5, h6, h7⟩ := hR6.cells
  have hfr1 := hR6.frozen
  go_region
  all_goals
   go_wp2
   refine bodyPost_ret ((((hD6.set (n / 8) k N4 (.slice AB mB cB) (.slice A5 at4 c5)).drew)).answers rfl rfl rfl) rfl ?_
   rw [HNX.out]
   exact ⟨_, _, rfl, R_set5 hD6 (Kd.R_mono H36.out (fun _ h => h.2)), R_set5 hD6 (Kd.R_mono H46.out (fun _ h => h.2)), (ff hB6 (Nat.le_refl _)).drew⟩
 ·have HNX := hid (show nxt l = noR te by
   unfold nxt
   rw [← HER.out, ← HN.out, if_neg (by decide), if_neg (by omega), HK8.out, show (rdn l 0 0).2.1 = at1 by have := HK.out; omega, ← HT.out, if_pos (by rcases hter with rfl | rfl | rfl | rfl <;> simp)])
  rcases hter with rfl | rfl | rfl | rfl
  all_goals
   go_wp2
   go_region
   all_goals
    go_wp2
    refine bodyPost_ret ((((hD4.set 0 0 0 (.slice none 0 0) (.slice none 0 0)).drew)).answers rfl rfl rfl) rfl ?_
    rw [HNX.out]
    exact ⟨.slice none 0 0, .slice none 0 0, rfl, Kd.R_nil _ _ _ _ _, Kd.R_nil _ _ _ _ _, (ff hB4 (Nat.le_refl _)).drew⟩

def wire_Next.f (l0 : List Int) : Option NextR := if isB l0 = true ∧ l0.length ≤ 1099511627776 then some (nxt l0) else none
theorem wire_Next.calls (A0 : Option Addr) (c0 : Nat) (l0 : List Int) (r1 : Int) (r2 : Int) (r3 : Int) (r4 : List Int) (r5 : List Int) (r6 : Int) (r7 : Int) (w : World) (hr0 : Kd.C (Kd.int .u8) w A0 l0.length l0) (hc0 : l0.length ≤ c0) (h : wire_Next.f l0 = some (r1, r2, r3, r4, r5, r6, r7)) :
 Calls Try.prog 24 #[.slice A0 l0.length c0] w fun e w' => ∃ v3_ v4_ : Value, e = .returned (.tuple #[.agg #[.int .i64 r1, .int .i64 r2, .int .u64 r3, v3_, v4_], .int .i64 r6, .int .i64 r7]) ∧ Kd.R (Kd.int .u8) 5 w' w.heap.size (fun k_ => some k_ ≠ (v4_ : Value).ownBlock) v3_ r4 ∧ Kd.R (Kd.int .u8) 5 w' w.heap.size (fun k_ => some k_ ≠ (v3_ : Value).ownBlock) v4_ r5 ∧ Below w.heap.size w w' := by
 unfold wire_Next.f at h
 split at h
 ·rename_i hh
  have h := Option.some.inj h
  refine (next_walk A0 c0 l0 w hr0 hc0 hh.1 hh.2).mono ?_
  rintro e w' ⟨v3, v4, rfl, h1, h2, h3⟩
  rw [h] at h1 h2
  rw [h]
  exact ⟨v3, v4, rfl, h1, h2, h3⟩
 ·cases h
end Go.Proofs.Ytbclejgljegfmaa.Hand
