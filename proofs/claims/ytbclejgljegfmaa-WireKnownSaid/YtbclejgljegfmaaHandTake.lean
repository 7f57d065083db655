/-
  wire's reader: take, and what stands behind a tag, by kinds: the walks.
-/
import Derived.Test.YtbclejgljegfmaaAp
import Derived.Test.YtbclejgljegfmaaHandGreat
set_option maxRecDepth 100000
set_option maxHeartbeats 1000000
namespace Go.Proofs.Ytbclejgljegfmaa.Hand
open Go.RowKit Go.Proofs.YtbclejgljegfmaaW.PrintWords

/-- What is taken: its address, its bytes; where the reader stands. -/
def TakeOk (l : List Int) (c at0 n : Nat) (A : Option Addr) (num wire N : Int) (B Raw : Value) (g : Nat) (w : World) (e : Ending) (w' : World) : Prop :=
  ∃ A' : Option Addr, e = .returned (.slice A' n n) ∧ (Kd.int .u8).C w' A' n ((l.drop at0).take n) ∧ w.grownBy w' (some g) ∧ Rdr w' g (.slice A l.length c) ((at0 + n : Nat) : Int) num wire N B Raw 0
def TakeNo (l : List Int) (c at0 n : Nat) (A : Option Addr) (num wire N : Int) (B Raw : Value) (g : Nat) (w : World) (e : Ending) (w' : World) : Prop :=
  ∃ A' : Option Addr, e = .returned (.slice A' n n) ∧ (Kd.int .u8).C w' A' n (List.replicate n 0) ∧ w.grownBy w' (some g) ∧ Rdr w' g (.slice A l.length c) at0 num wire N B Raw 3

theorem taken {w : World} {A : Option Addr} {l : List Int} {at0 n : Nat} (h : (Kd.int .u8).C w A l.length l) (hat : at0 + n ≤ l.length) : (Kd.int .u8).C w (if at0 + n = at0 then A else A.map (·.add at0)) n ((l.drop at0).take n) := by
  have h2 := Kd.C_mid (c := at0 + n) (Kd.C_take h hat) (lo := at0) (hi := at0 + n) (by omega) p170z p170z
  have e : ((l.take (at0 + n)).take (at0 + n)).drop at0 = (l.drop at0).take n := by rw [List.take_take, Nat.min_self, List.drop_take, Nat.add_sub_cancel_left]
  rw [e] at h2
  have hl : ((l.drop at0).take n).length = n := p205z
  rw [hl, show (Kd.int .u8).sz = 1 from rfl, Nat.mul_one] at h2
  exact h2
theorem take_ans {l : List Int} {c at0 n g m : Nat} {A A' : Option Addr} (hA' : A' = if at0 + n = at0 then A else A.map (·.add at0)) {num wire N : Int} {B Raw : Value} {w w1 : World} (hC : (Kd.int .u8).C w A l.length l) (hne : 0 < l.length → ∀ b, A = some b → b.block ≠ g) (hat : at0 + n ≤ l.length) (hg : w.grownBy w1 (some g)) (hm : m = n)
    (hR : Rdr w1 g (.slice A l.length c) ((at0 + n : Nat) : Int) num wire N B Raw 0) : TakeOk l c at0 n A num wire N B Raw g w (.returned (.slice A' m m)) w1 := by
  subst hm hA'
  exact ⟨_, rfl, taken (C_grown hC hne hg) hat, hg, hR⟩

theorem take_ok (g : Nat) (A : Option Addr) (c : Nat) (l : List Int) (at0 n : Nat) (num wire N : Int) (B Raw : Value) (w : World) (hR : Rdr w g (.slice A l.length c) at0 num wire N B Raw 0) (hC : (Kd.int .u8).C w A l.length l) (hc : l.length ≤ c) (hne : 0 < l.length → ∀ b, A = some b → b.block ≠ g) (hat : at0 + n ≤ l.length) (hl : l.length ≤ 1099511627776) :
    Calls Try.prog 57 #[.pointer (some ⟨g, 0, none⟩), .int .i64 n] w (TakeOk l c at0 n A num wire N B Raw g w) := by
  have HC := hid hC
  have HNE := hid hne
  clear hC hne
  obtain ⟨h0, h1, h2, h3, h4, h5, h6, h7⟩ := hR.cells
  have hfr := hR.frozen
  have hfit : ¬ ((l.length : Int) - at0 < n) := by omega
  have hsub : 0 ≤ (l.length : Int) - at0 := by omega
  go_enter Try.func57, Try.ntmps57
  go_wp2
  go_quiet (fail)
  go_wp2
  go_quiet (fail)
  go_wp2
  all_goals
    go_ret
    exact take_ans (by simp [*]) HC.out HNE.out hat (bh (bh (da w _ _) (set_grown _ _ _ _)) (da _ _ _)) (by omega) (by simpa using ((hR.drewN _).setAt ((at0 : Int) + n)).drewN _)

theorem grown_any {w w1 : World} {r : Option Nat} (h : w.grownBy w1 none) : w.grownBy w1 r := ⟨h.os, h.tape, h.output, h.size, fun i hi _ => h.block i hi (by simp)⟩
theorem Rdr.grown {W W1 : World} {g : Nat} {b B Raw : Value} {at_ num wire N e : Int} {r : Option Nat} (h : Rdr W g b at_ num wire N B Raw e) (hg : W.grownBy W1 r) (hne : some g ≠ r) : Rdr W1 g b at_ num wire N B Raw e := blk_grown h hg hne
theorem take_none {l : List Int} {c at0 n g base : Nat} {A : Option Addr} {num wire N : Int} {B Raw : Value} {w w1 : World} {ad : Addr} (ho : w1.ownsRow base 5 1 (.slice (some ad) n n) n (madeCells (Value.int .u8 0).cells (n * 1)).toList) (hg : w.grownBy w1 (some g))
    (hR : Rdr w1 g (.slice A l.length c) at0 num wire N B Raw 3) : TakeNo l c at0 n A num wire N B Raw g w (.returned (.slice (some ad) n n)) w1 := by
  have e : (madeCells (Value.int .u8 0).cells (n * 1)).toList = nums .u8 (List.replicate n 0) := by
    have h1 : ∀ x, (Value.int .u8 0).cells[x % (Value.int .u8 0).cells.size]! = .int .u8 0 := fun x => by
      show (#[Value.int .u8 0] : Array Value)[x % 1]! = _
      rw [Nat.mod_one]
      rfl
    simp [madeCells, nums, h1, List.eq_replicate_iff]
  rw [e] at ho
  have hl : (List.replicate n (0 : Int)).length = n := by simp
  have hRR : (Kd.int .u8).R 5 w1 base (fun _ => True) (.slice (some ad) n n) (List.replicate n 0) := Kd.R_of_own (enc := Value.int .u8) (h1 := fun _ => rfl) (by rw [hl]; exact ho) (fun _ _ => trivial)
  obtain ⟨A', c', he, _, hC⟩ := Kd.R_reads hRR
  injection he with e1 e2 e3
  subst e1
  rw [hl] at hC
  exact ⟨_, rfl, hC, hg, hR⟩

theorem take_no (g : Nat) (A : Option Addr) (c : Nat) (l : List Int) (at0 n : Nat) (num wire N : Int) (B Raw : Value) (w : World) (hR : Rdr w g (.slice A l.length c) at0 num wire N B Raw 0) (hat : l.length < at0 + n) (hat0 : at0 ≤ l.length) (hn : n ≤ 8) (hl : l.length ≤ 1099511627776) :
    Calls Try.prog 57 #[.pointer (some ⟨g, 0, none⟩), .int .i64 n] w (TakeNo l c at0 n A num wire N B Raw g w) := by
  obtain ⟨i0, hi, hz0, hz1, hz2⟩ := info_parts hinfo5
  obtain ⟨h0, h1, h2, h3, h4, h5, h6, h7⟩ := hR.cells
  have hfr := hR.frozen
  have hfit : (l.length : Int) - at0 < n := by omega
  have hsub : 0 ≤ (l.length : Int) - at0 := by omega
  go_enter Try.func57, Try.ntmps57
  go_wp2
  go_quiet (fail)
  go_wp2_with (at_make; go_must (refine wpList_make_full _ rfl _ _ 22 rfl w.heap.size 5 i0 (.int .u8 0) 1 Try.underlying22 hi hz0 hz1 _ _ _ _ n rfl rfl rfl rfl (by rw [hz2]; omega) p245z (by simp) ?_); intro w1 hown hgrow)
  go_ret
  exact take_none (by simpa using hown) (bh (bh (da w _ _) (set_grown _ _ _ _)) (grown_any hgrow)) (by simpa using (((hR.drewN _).setE 3).grown hgrow (by simp)))

/-- What a part behind the tag leaves. -/
def PartAns (l : List Int) (c at0 : Nat) (A : Option Addr) (num wire : Int) (Raw : Value) (g : Nat) (w : World) (t : Int × List Int × Nat × Int) (e : Ending) (w' : World) : Prop :=
  e = .returned (.tuple #[]) ∧ w.grownBy w' (some g) ∧ ∃ (at_ : Nat) (N : Int) (B : Value), Rdr w' g (.slice A l.length c) at_ num wire N B Raw t.2.2.2 ∧ at_ ≤ l.length ∧
    (t.2.2.2 = 0 → at_ = at0 + t.2.2.1 ∧ N = t.1 ∧ (Kd.int .u8).R 5 w' w.heap.size (fun _ => True) B t.2.1)
section
variable (g : Nat) (A : Option Addr) (c : Nat) (l : List Int) (at0 : Nat) (num wire : Int) (Raw : Value) (w : World)

theorem none_walk (N : Int) (B : Value) (hR : Rdr w g (.slice A l.length c) at0 num wire N B Raw 0) (hat : at0 ≤ l.length) (hw : wire ≠ 0 ∧ wire ≠ 1 ∧ wire ≠ 2 ∧ wire ≠ 5) :
    Calls Try.prog 47 #[.pointer (some ⟨g, 0, none⟩)] w (PartAns l c at0 A num wire Raw g w (body wire (l.drop at0))) := by
  have HB := hid (show body wire (l.drop at0) = (0, [], 0, 10) by unfold body; rw [if_neg hw.1, if_neg hw.2.1, if_neg hw.2.2.1, if_neg hw.2.2.2])
  obtain ⟨h0, h1, h2, h3, h4, h5, h6, h7⟩ := hR.cells
  have hfr := hR.frozen
  clear hw
  go_enter Try.func47, Try.ntmps47
  go_wp2
  go_end0
  rw [HB.out]
  exact ⟨rfl, set_grown _ _ _ _, at0, N, B, hR.setE 10, hat, by simp⟩

theorem kH (hR : Rdr w g (.slice A l.length c) at0 num 0 0 (.slice none 0 0) Raw 0) (hC : (Kd.int .u8).C w A l.length l) (hne : 0 < l.length → ∀ b, A = some b → b.block ≠ g) (hat : at0 ≤ l.length) (hB : isB l = true) (hl : l.length ≤ 1099511627776) :
    Calls Try.prog 44 #[.pointer (some ⟨g, 0, none⟩)] w (PartAns l c at0 A num 0 Raw g w (body 0 (l.drop at0))) := by
  have HB := hid (show body 0 (l.drop at0) = ((rdn (l.drop at0) 0 0).1, [], (rdn (l.drop at0) 0 0).2.1, (rdn (l.drop at0) 0 0).2.2) from rfl)
  have hnum := hid (gQ g A c l at0 num 0 0 (.slice none 0 0) Raw w hR hC hne hat hB hl)
  clear hR hC hne hB
  go_enter Try.func44, Try.ntmps44
  go_wp2_with (go_at_call 43; refine hnum.out.mono ?_; rintro e w1 ⟨rfl, hg1, at1, hR1, ha1, hk1⟩; obtain ⟨-, -, -, -, h4, -⟩ := hR1.cells; have hfr1 := hR1.frozen; have HK := hid hk1; clear hk1)
  go_end0
  rw [HB.out]
  exact ⟨rfl, bh hg1 (set_grown _ _ _ _), at1, _, _, hR1.setN _, ha1, fun he => ⟨HK.out he, rfl, Kd.R_nil _ _ _ _ _⟩⟩

theorem great_at {n : Nat} {A' : Option Addr} {r : List Int} {w1 : World} (h : (Kd.int .u8).C w1 A' n r) (hn : n ≤ 8) (hB : isB r = true) : Calls Try.prog 56 #[.slice A' n n] w1 fun e w' => e = .returned (.int .u64 (gr r)) ∧ Below w1.heap.size w1 w' := by
  have hl := h.1
  subst hl
  exact ka A' r r.length w1 hn hB (fun W1 hb => Kd.C_below h hb)
theorem isB_zeros (n : Nat) : isB (List.replicate n 0) = true := by simp [isB, List.all_replicate]
/-- 'take', then 'great': what both leave. -/
def FixAns (n : Nat) (e : Ending) (w' : World) : Prop :=
  ∃ A' : Option Addr, e = .returned (.slice A' n n) ∧ w.grownBy w' (some g) ∧
    ((n ≤ (l.drop at0).length ∧ (Kd.int .u8).C w' A' n ((l.drop at0).take n) ∧ Rdr w' g (.slice A l.length c) ((at0 + n : Nat) : Int) num wire 0 (.slice none 0 0) Raw 0) ∨
     (¬ n ≤ (l.drop at0).length ∧ (Kd.int .u8).C w' A' n (List.replicate n 0) ∧ Rdr w' g (.slice A l.length c) at0 num wire 0 (.slice none 0 0) Raw 3))
theorem take_any (n : Nat) (hn : n ≤ 8) (hR : Rdr w g (.slice A l.length c) at0 num wire 0 (.slice none 0 0) Raw 0) (hC : (Kd.int .u8).C w A l.length l) (hc : l.length ≤ c) (hne : 0 < l.length → ∀ b, A = some b → b.block ≠ g) (hat : at0 ≤ l.length) (hl : l.length ≤ 1099511627776) :
 Calls Try.prog 57 #[.pointer (some ⟨g, 0, none⟩), .int .i64 n] w (FixAns g A c l at0 num wire Raw w n) := by
 by_cases h : n ≤ (l.drop at0).length
 case neg =>
  refine (take_no g A c l at0 n num wire 0 (.slice none 0 0) Raw w hR (by rw [List.length_drop] at h; omega) hat hn hl).mono ?_
  rintro e w' ⟨A', rfl, h1, h2, h3⟩
  exact ⟨A', rfl, h2, .inr ⟨h, h1, h3⟩⟩

 refine (take_ok g A c l at0 n num wire 0 (.slice none 0 0) Raw w hR hC hc hne (by rw [List.length_drop] at h; omega) hl).mono ?_
 rintro e w' ⟨A', rfl, h1, h2, h3⟩
 exact ⟨A', rfl, h2, .inl ⟨h, h1, h3⟩⟩
theorem wide_walk (hR : Rdr w g (.slice A l.length c) at0 num 1 0 (.slice none 0 0) Raw 0) (hC : (Kd.int .u8).C w A l.length l) (hc : l.length ≤ c) (hne : 0 < l.length → ∀ b, A = some b → b.block ≠ g) (hat : at0 ≤ l.length) (hB : isB l = true) (hl : l.length ≤ 1099511627776) :
 Calls Try.prog 45 #[.pointer (some ⟨g, 0, none⟩)] w (PartAns l c at0 A num 1 Raw g w (body 1 (l.drop at0))) := by
 have HB := hid (show body 1 (l.drop at0) = if 8 ≤ (l.drop at0).length then (gr ((l.drop at0).take 8), [], 8, 0) else (0, [], 0, 3) from rfl)
 have htake : Hid (Calls Try.prog 57 #[.pointer (some ⟨g, 0, none⟩), .int .i64 8] w (FixAns g A c l at0 num 1 Raw w 8)) := take_any g A c l at0 num 1 Raw w 8 (by omega) hR hC hc hne hat hl
 have hBB := hid hB
 clear hR hC hne hB
 go_enter Try.func45, Try.ntmps45
 go_wp2_with fail
 refine htake.out.mono ?_
 rintro e w1 ⟨A', rfl, hg1, ⟨hq, hC1, hR1⟩ | ⟨hq, hC1, hR1⟩⟩
 ·have HG := hid (great_at hC1 (by omega) (isB_take 8 (isB_drop at0 hBB.out)))
  clear hC1
  go_wp2_with fail
  refine HG.out.mono ?_
  rintro e w2 ⟨rfl, hb2⟩
  have hR2 := hR1.grown (r := none) (grown_of_below hb2 none) (by simp)
  obtain ⟨-, -, -, -, h4, -⟩ := hR2.cells
  have hfr1 := hR2.frozen
  go_wp2
  go_end0
  rw [HB.out, if_pos hq]
  exact ⟨rfl, bh (bh hg1 (grown_of_below hb2 _)) (set_grown _ _ _ _), at0 + 8, _, _, hR2.setN _, p197z, fun _ => ⟨rfl, rfl, Kd.R_nil _ _ _ _ _⟩⟩
 ·have HG := hid (great_at hC1 (by omega) (isB_zeros 8))
  clear hC1
  go_wp2_with fail
  refine HG.out.mono ?_
  rintro e w2 ⟨rfl, hb2⟩
  have hR2 := hR1.grown (r := none) (grown_of_below hb2 none) (by simp)
  obtain ⟨-, -, -, -, h4, -⟩ := hR2.cells
  have hfr1 := hR2.frozen
  go_wp2
  go_end0
  rw [HB.out, if_neg hq]
  exact ⟨rfl, bh (bh hg1 (grown_of_below hb2 _)) (set_grown _ _ _ _), at0, _, _, hR2.setN _, hat, by simp⟩

theorem kb (hR : Rdr w g (.slice A l.length c) at0 num 5 0 (.slice none 0 0) Raw 0) (hC : (Kd.int .u8).C w A l.length l) (hc : l.length ≤ c) (hne : 0 < l.length → ∀ b, A = some b → b.block ≠ g) (hat : at0 ≤ l.length) (hB : isB l = true) (hl : l.length ≤ 1099511627776) :
 Calls Try.prog 48 #[.pointer (some ⟨g, 0, none⟩)] w (PartAns l c at0 A num 5 Raw g w (body 5 (l.drop at0))) := by
 have HB := hid (show body 5 (l.drop at0) = if 4 ≤ (l.drop at0).length then (gr ((l.drop at0).take 4), [], 4, 0) else (0, [], 0, 3) from rfl)
 have htake : Hid (Calls Try.prog 57 #[.pointer (some ⟨g, 0, none⟩), .int .i64 4] w (FixAns g A c l at0 num 5 Raw w 4)) := take_any g A c l at0 num 5 Raw w 4 (by omega) hR hC hc hne hat hl
 have hBB := hid hB
 clear hR hC hne hB
 go_enter Try.func48, Try.ntmps48
 go_wp2_with fail
 refine htake.out.mono ?_
 rintro e w1 ⟨A', rfl, hg1, ⟨hq, hC1, hR1⟩ | ⟨hq, hC1, hR1⟩⟩
 ·have HG := hid (great_at hC1 (by omega) (isB_take 4 (isB_drop at0 hBB.out)))
  clear hC1
  go_wp2_with fail
  refine HG.out.mono ?_
  rintro e w2 ⟨rfl, hb2⟩
  have hR2 := hR1.grown (r := none) (grown_of_below hb2 none) (by simp)
  obtain ⟨-, -, -, -, h4, -⟩ := hR2.cells
  have hfr1 := hR2.frozen
  go_wp2
  go_end0
  rw [HB.out, if_pos hq]
  exact ⟨rfl, bh (bh hg1 (grown_of_below hb2 _)) (set_grown _ _ _ _), at0 + 4, _, _, hR2.setN _, p197z, fun _ => ⟨rfl, rfl, Kd.R_nil _ _ _ _ _⟩⟩
 ·have HG := hid (great_at hC1 (by omega) (isB_zeros 4))
  clear hC1
  go_wp2_with fail
  refine HG.out.mono ?_
  rintro e w2 ⟨rfl, hb2⟩
  have hR2 := hR1.grown (r := none) (grown_of_below hb2 none) (by simp)
  obtain ⟨-, -, -, -, h4, -⟩ := hR2.cells
  have hfr1 := hR2.frozen
  go_wp2
  go_end0
  rw [HB.out, if_neg hq]
  exact ⟨rfl, bh (bh hg1 (grown_of_below hb2 _)) (set_grown _ _ _ _), at0, _, _, hR2.setN _, hat, by simp⟩
end
end Go.Proofs.Ytbclejgljegfmaa.Hand
