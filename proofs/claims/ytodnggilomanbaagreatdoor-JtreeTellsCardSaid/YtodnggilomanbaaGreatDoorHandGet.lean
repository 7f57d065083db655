/-
  jtree: Get: what it comes to, and the walk.
-/
import Derived.Test.YtodnggilomanbaaGreatDoorAp
import Derived.Test.YtodnggilomanbaaGreatDoorHandStep
import Derived.Test.YtodnggilomanbaaGreatDoorHandCopy
import Derived.Test.YtodnggilomanbaaGreatDoorGS
set_option maxRecDepth 100000
set_option maxHeartbeats 8000000
namespace Go.Proofs.YtodnggilomanbaaGreatDoor.Hand
open Go.RowKit Go.Lib Go.Proofs.YtodnggilomanbaaGreatDoorW.PrintWords Go.Proofs.YtodnggilomanbaaGreatDoorW.PrintLast Go.Proofs.YtodnggilomanbaaGreatDoorW.PrintMore Go.Proofs.YtodnggilomanbaaGreatDoor.PAll
set_option linter.unusedVariables false
set_option linter.unusedSimpArgs false

def idxS : List ByteArray → ByteArray → Int → Int
  | [], _, _ => -1
  | y :: l, x, i => if y = x then i else idxS l x (i + 1)
theorem idxS_rng : ∀ (l : List ByteArray) (x : ByteArray) (i : Int), 0 ≤ i → idxS l x i = -1 ∨ (i ≤ idxS l x i ∧ idxS l x i < i + l.length)
 | [], x, i, h => Or.inl rfl
 | y :: l, x, i, h => by
  rw [idxS]
  split
  ·right
   simp only [List.length_cons]
   omega
  ·rcases idxS_rng l x (i + 1) (by omega) with h | h
   ·exact Or.inl h
   ·right
    simp only [List.length_cons]
    omega
theorem idxK {l : List ByteArray} {x : ByteArray} (hl : l.length ≤ 1099511627776) : ∀ (n i : Nat), i + n = l.length → ar.l0 (n + 1) l x (l.length : Int) (i : Int) = some (idxS (l.drop i) x i)
 | 0, i, h => by
  rw [ar.l0, if_neg (by omega), List.drop_eq_nil_iff.2 (by omega), idxS]
 | n + 1, i, h => by
  have h1 : i < l.length := by omega
  have e1 : rdOf ByteArray.empty l (i : Int) = l[i] := by simp [rdOf, List.getD_eq_getElem?_getD, List.getElem?_eq_getElem h1]
  have hw : wrap64 ((i : Int) + 1) = ((i + 1 : Nat) : Int) := p76z
  have hd := List.drop_eq_getElem_cons h1
  rw [ar.l0, if_pos (by omega), if_pos (by omega), if_pos (by omega), e1, hd, idxS]
  by_cases hx : l[i] = x
  case pos =>
   rw [if_pos hx, hx, if_pos rfl]
  have hx2 : x.toList ≠ l[i].toList := fun h => hx (by
   apply ByteArray.ext
   apply Array.toList_inj.1
   rw [← ByteArray.toList_eq, ← ByteArray.toList_eq, h])
  rw [if_neg hx, if_neg hx2, hw, idxK hl n (i + 1) (by omega)]
  rfl
theorem gS (A : Option Addr) (c : Nat) (l : List ByteArray) (x : ByteArray) (w : World) (h0 : Kd.C Kd.string w A l.length l) (h1 : l.length ≤ c) (hl : l.length ≤ 1099511627776) :
    Calls Tryz.prog 42 #[.slice A l.length c, .string x] w fun e w' => e = .returned (.int .i64 (idxS l x 0)) ∧ Drawn0 w w' := by
  refine ar.calls (l.length + 1) A c l x (idxS l x 0) w h0 h1 ?_
  rw [ar.f]
  have := idxK (x := x) hl l.length 0 (by omega)
  simpa using this
def jtree_Get.f (k : Nat) (a0_0 : Int) (a0_1 : ByteArray) (ab : List ByteArray) (aa : List S28) (a1 : ByteArray) : Option (Int × ByteArray × List ByteArray × List S28 × Bool) :=
  if ab.length ≤ 1099511627776 then
    if a0_0 = 7 ∧ 0 ≤ idxS ab a1 0 ∧ idxS ab a1 0 < (aa.length : Int) then
      if okN (rd_T28 aa (idxS ab a1 0)) = true then some ((rd_T28 aa (idxS ab a1 0)).f0, (rd_T28 aa (idxS ab a1 0)).f1, (rd_T28 aa (idxS ab a1 0)).f2, (rd_T28 aa (idxS ab a1 0)).f3, true) else none
    else some (0, ⟨#[]⟩, [], [], false)
  else none
theorem get_calls (a0 : Int) (a1 : ByteArray) (A2 : Option Addr) (c2 : Nat) (l2 : List ByteArray) (A3 : Option Addr) (c3 : Nat) (l3 : List S28) (key : ByteArray) (w : World) (h2 : Kd.C Kd.string w A2 l2.length l2) (hc2 : l2.length ≤ c2) (h3 : Kd.C k28 w A3 l3.length l3) (hl : l2.length ≤ 1099511627776)
 (R : S28) (bl : Bool) (hR : if a0 = 7 ∧ 0 ≤ idxS l2 key 0 ∧ idxS l2 key 0 < (l3.length : Int) then rd_T28 l3 (idxS l2 key 0) = R ∧ okN R = true ∧ bl = true else R = z28 ∧ bl = false) :
 Calls Tryz.prog 15 #[.agg #[.int .i64 a0, .string a1, .slice A2 l2.length c2, .slice A3 l3.length c3], .string key] w fun e w' => ∃ v2 v3 : Value, e = .returned (.tuple #[.agg #[.int .i64 R.f0, .string R.f1, v2, v3], .bool bl]) ∧ Kd.R Kd.string 9 w' w.heap.size (fun _ => True) v2 R.f2 ∧ Kd.R k28 28 w' w.heap.size (fun k_ => some k_ ≠ (v2 : Value).ownBlock) v3 R.f3 ∧ Below w.heap.size w w' := by
 obtain ⟨i, hi⟩ : ∃ i, idxS l2 key 0 = i := ⟨_, rfl⟩
 have hir := idxS_rng l2 key 0 (by omega)
 rw [hi] at hR hir
 have hix := fun W (hB : Below w.heap.size w W) => gS A2 c2 l2 key W (Kd.C_below h2 hB) hc2 hl
 rw [hi] at hix
 clear hi
 have HRR := hid hR
 have H3 := hid h3
 clear hR h2 h3
 go_enter Tryz.func15, Tryz.ntmps15
 go_upto_region 1 with (first
  | ((with_reducible refine gate_dst (N := 2) rfl ?_); refine box_event ?hg (N := 2) ?hd (cs := #[.int .i64 a0, .string a1, .slice A2 l2.length c2, .slice A3 l3.length c3]) (t := 28) ?hr ?_; (case hd => rfl); (case hg => rfl); (case hr => exact p9z); intro q xq wq bq hbq; have GQ := hid xq; have BQ := hid bq; have HQ := hid hbq; clear xq bq hbq)
  | ((with_reducible refine gate_dst (N := 4) rfl ?_); refine box_event ?hg (N := 4) ?hd (cs := zcells) (t := 28) ?hr ?_; (case hd => rfl); (case hg => rfl); (case hr => exact p9z); intro r xr wr br hbr; have GR := hid xr; have BR := hid br; have HRB := hid hbr; clear xr br hbr))
 have nqr : q ≠ r := by have := blk_lt BQ.out; rw [GR.out]; omega
 have gr : w.heap.size ≤ r := by rw [GR.out]; exact HQ.out.size
 have HH := hid (And.intro (below_step HQ.out HRB.out) (And.intro (blk_below BQ.out HRB.out) BR.out))
 clear BQ BR HQ HRB GQ GR
 have hz0 := cell_of (i := 0) HH.out.2.1 rfl
 have hz2 := cell_of (i := 2) HH.out.2.1 rfl
 have hz3 := cell_of (i := 3) HH.out.2.1 rfl
 have hcall := hix wr HH.out.1
 go_upto_region 2 with (go_at_call 42; refine hcall.mono ?_; rintro e w5 ⟨rfl, m, rfl⟩)
 obtain ⟨hd0, hd1, hd2, hd3, hf0, hf1, hf2, hf3⟩ := cells4 HH.out.2.2
 have hR := HRR.out
 clear hcall hix
 by_cases hc : a0 = 7 ∧ 0 ≤ i ∧ i < (l3.length : Int)
 case neg =>
  rw [if_neg hc] at hR
  obtain ⟨rfl, rfl⟩ := hR
  have hS := fun m => stored4 (blk_drewN HH.out.2.2 m) (.int .i64 0) (.string (⟨#[]⟩ : ByteArray)) (.slice none 0 0) (.slice none 0 0)
  have hBB := fun m => below4 (pw_below_drewN HH.out.1 m) gr (.int .i64 0) (.string (⟨#[]⟩ : ByteArray)) (.slice none 0 0) (.slice none 0 0)
  by_cases h7 : a0 = 7
  case neg =>
   have q7 : (a0 != 7) = true := bne_iff_ne.mpr h7
   clear h7 hc HRR hir
   go_wp2
   refine bodyPost_ret (results_ct rfl _ _ r 28 zcells (0, 0) _ rfl (hS m) Tryz.underlying28 rfl p12z) rfl ?_
   exact ⟨.slice none 0 0, .slice none 0 0, rfl, Kd.R_nil _ _ _ _ _, Kd.R_nil _ _ _ _ _, hBB m⟩
  have q7 : (a0 != 7) = false := bne_eq_false_iff_eq.mpr h7
  by_cases h0 : i < 0
  case pos =>
   have p0 : decide (i < 0) = true := decide_eq_true h0
   clear h7 h0 hc HRR hir
   go_wp2
   refine bodyPost_ret (results_ct rfl _ _ r 28 zcells (0, 0) _ rfl (hS m) Tryz.underlying28 rfl p12z) rfl ?_
   exact ⟨.slice none 0 0, .slice none 0 0, rfl, Kd.R_nil _ _ _ _ _, Kd.R_nil _ _ _ _ _, hBB m⟩
  have p0 : decide (i < 0) = false := decide_eq_false h0
  have p1 : decide ((l3.length : Int) ≤ i) = true := decide_eq_true (by omega)
  clear h7 h0 hc HRR hir
  go_wp2
  refine bodyPost_ret (results_ct rfl _ _ r 28 zcells (0, 0) _ rfl (hS m) Tryz.underlying28 rfl p12z) rfl ?_
  exact ⟨.slice none 0 0, .slice none 0 0, rfl, Kd.R_nil _ _ _ _ _, Kd.R_nil _ _ _ _ _, hBB m⟩
 rw [if_pos hc] at hR
 obtain ⟨h7, h0, h1⟩ := hc
 obtain ⟨hx, hok, rfl⟩ := hR
 have q7 : (a0 != 7) = false := bne_eq_false_iff_eq.mpr h7
 have p0 : decide (i < 0) = false := decide_eq_false (by omega)
 have p1 : decide ((l3.length : Int) ≤ i) = false := decide_eq_false (by omega)
 obtain ⟨ad, X2, cX2, X3, cX3, eA, xA0, xA1, xA2, xA3, lA2, iA2, lA3, iA3⟩ := at_T28 H3.out i h0 h1
 cases eA
 rw [hx] at xA0 xA1 xA2 xA3 iA2 iA3 lA2 lA3
 replace xA0 := (HH.out.1.cell (World.block_lt_of_cell? w _ xA0)).trans xA0
 replace xA1 := (HH.out.1.cell (World.block_lt_of_cell? w _ xA1)).trans xA1
 replace xA2 := (HH.out.1.cell (World.block_lt_of_cell? w _ xA2)).trans xA2
 replace xA3 := (HH.out.1.cell (World.block_lt_of_cell? w _ xA3)).trans xA3
 have e0 : (0 ≤ i) = True := eq_true h0
 have e1 : (i < (l3.length : Int)) = True := eq_true h1
 have hcp := fun W hB => copy_all R hok X2 cX2 X3 cX3 W (Kd.C_below iA2 hB) lA2 (Kd.C_below iA3 hB) lA3
 clear hx hok iA2 iA3 lA2 lA3 h7 HRR hir
 go_upto_region 4 with (fail)
 go_wp2_with (go_at_call 17; refine (hcp _ (pw_below_drewN HH.out.1 m)).mono ?_; rintro e w6 ⟨v2, v3, rfl, r2, r3, hb6⟩; obtain ⟨V2, C2, e2⟩ := Kd.R_slice r2; obtain ⟨V3, C3, e3⟩ := Kd.R_slice r3; subst e2; subst e3; have br6 := blk_below (blk_drewN HH.out.2.2 m) hb6; have hc0 := cell_of (i := 0) br6 rfl; have hc1 := cell_of (i := 1) br6 rfl; have hc2 := cell_of (i := 2) br6 rfl; have hc3 := cell_of (i := 3) br6 rfl; have hg0 := blk_frozen br6 0; have hg1 := blk_frozen br6 1; have hg2 := blk_frozen br6 2; have hg3 := blk_frozen br6 3; have HX := hid (And.intro r2 (And.intro r3 (And.intro hb6 br6))); clear r2 r3 hb6 br6)
 have hS := stored4 HX.out.2.2.2 (.int .i64 R.f0) (.string R.f1) (.slice V2 R.f2.length C2) (.slice V3 R.f3.length C3)
 refine bodyPost_ret (results_ct rfl _ _ r 28 #[.int .i64 R.f0, .string R.f1, .slice V2 R.f2.length C2, .slice V3 R.f3.length C3] (0, 0) _ rfl hS Tryz.underlying28 rfl p12z) rfl ?_
 have hrl := blk_lt HH.out.2.2
 have hbd : (wr.drewN m).heap.size = wr.heap.size := rfl
 have q2 := Kd.R_mono (Kd.R_bound HX.out.1) (ok' := fun k => True ∧ k ≠ r) (fun k hk => by have := hk.2.1; exact ⟨trivial, by omega⟩)
 have q3 := Kd.R_mono (Kd.R_bound HX.out.2.1) (ok' := fun k => some k ≠ (Value.slice V2 R.f2.length C2).ownBlock ∧ k ≠ r) (fun k hk => by have := hk.2.1; exact ⟨hk.1, by omega⟩)
 have q2 := Kd.R_far (p := ⟨r, 3, none⟩) (Kd.R_far (p := ⟨r, 2, none⟩) (Kd.R_far (p := ⟨r, 1, none⟩) (Kd.R_far (p := ⟨r, 0, none⟩) q2 (fun _ hk => hk.2) (.int .i64 R.f0)) (fun _ hk => hk.2) (.string R.f1)) (fun _ hk => hk.2) (.slice V2 R.f2.length C2)) (fun _ hk => hk.2) (.slice V3 R.f3.length C3)
 have q3 := Kd.R_far (p := ⟨r, 3, none⟩) (Kd.R_far (p := ⟨r, 2, none⟩) (Kd.R_far (p := ⟨r, 1, none⟩) (Kd.R_far (p := ⟨r, 0, none⟩) q3 (fun _ hk => hk.2) (.int .i64 R.f0)) (fun _ hk => hk.2) (.string R.f1)) (fun _ hk => hk.2) (.slice V2 R.f2.length C2)) (fun _ hk => hk.2) (.slice V3 R.f3.length C3)
 have hB6 := below_step (pw_below_drewN HH.out.1 m) HX.out.2.2.1
 have hsz := HH.out.1.size
 exact ⟨.slice V2 R.f2.length C2, .slice V3 R.f3.length C3, rfl, Kd.R_lower (Kd.R_mono q2 (ok' := fun _ => True) (fun _ _ => trivial)) hsz, Kd.R_lower (Kd.R_mono q3 (ok' := fun k => some k ≠ (Value.slice V2 R.f2.length C2).ownBlock) (fun _ hk => hk.1)) hsz, below4 hB6 gr _ _ _ _⟩
theorem jtree_Get.calls (k : Nat) (a0_0 : Int) (a0_1 : ByteArray) (A0_2 : Option Addr) (c0_2 : Nat) (ab : List ByteArray) (A0_3 : Option Addr) (c0_3 : Nat) (aa : List S28) (a1 : ByteArray) (r1 : Int) (r2 : ByteArray) (r3 : List ByteArray) (r4 : List S28) (r5 : Bool) (w : World) (hr0_2 : Kd.C Kd.string w A0_2 ab.length ab) (hc0_2 : ab.length ≤ c0_2) (hr0_3 : Kd.C k28 w A0_3 aa.length aa) (hc0_3 : aa.length ≤ c0_3) (h : jtree_Get.f k a0_0 a0_1 ab aa a1 = some (r1, r2, r3, r4, r5)) :
 Calls Tryz.prog 15 #[.agg #[.int .i64 a0_0, .string a0_1, .slice A0_2 ab.length c0_2, .slice A0_3 aa.length c0_3], .string a1] w fun e w' => ∃ v2_ v3_ : Value, e = .returned (.tuple #[.agg #[.int .i64 r1, .string r2, v2_, v3_], .bool r5]) ∧ Kd.R Kd.string 9 w' w.heap.size (fun _ => True) v2_ r3 ∧ Kd.R k28 28 w' w.heap.size (fun k_ => some k_ ≠ (v2_ : Value).ownBlock) v3_ r4 ∧ Below w.heap.size w w' := by
 unfold jtree_Get.f at h
 split at h
 ·rename_i hl
  split at h
  ·rename_i hc
   split at h
   ·rename_i he
    simp only [Option.some.injEq, Prod.mk.injEq] at h
    obtain ⟨rfl, rfl, rfl, rfl, rfl⟩ := h
    exact get_calls a0_0 a0_1 A0_2 c0_2 ab A0_3 c0_3 aa a1 w hr0_2 hc0_2 hr0_3 hl (rd_T28 aa (idxS ab a1 0)) true (by rw [if_pos hc]; exact ⟨rfl, he, rfl⟩)
   ·cases h
  ·rename_i hc
   simp only [Option.some.injEq, Prod.mk.injEq] at h
   obtain ⟨rfl, rfl, rfl, rfl, rfl⟩ := h
   exact get_calls a0_0 a0_1 A0_2 c0_2 ab A0_3 c0_3 aa a1 w hr0_2 hc0_2 hr0_3 hl z28 false (by rw [if_neg hc]; exact ⟨rfl, rfl⟩)
 ·cases h
end Go.Proofs.YtodnggilomanbaaGreatDoor.Hand
