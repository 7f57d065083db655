/-
  jtree: Copy of a node without parts (all that the statements' own texts ask): the walks.
-/
import Derived.Test.YtodnggilomanbaaGreatDoorAp
import Derived.Test.YtodnggilomanbaaGreatDoorHandSame
import Derived.Test.YtodnggilomanbaaGreatDoorHandAa
import Derived.Test.YtodnggilomanbaaGreatDoorShelf
set_option maxRecDepth 100000
set_option maxHeartbeats 4000000
namespace Go.Proofs.YtodnggilomanbaaGreatDoor.Hand
open Go.RowKit Go.Lib Go.Proofs.YtodnggilomanbaaGreatDoorW.PrintWords Go.Proofs.YtodnggilomanbaaGreatDoorW.PrintLast Go.Proofs.YtodnggilomanbaaGreatDoorW.PrintMore Go.Proofs.YtodnggilomanbaaGreatDoor.PAll
set_option linter.unusedVariables false
set_option linter.unusedSimpArgs false

def Copy_r1.T : Bool × List (List Nat × List Nat) := (true, [([], []), ([0], [0]), ([1], [1]), ([], []), ([3], [3]), ([4, 2], [4]), ([0, 1, 2, 3, 4], []), ([6, 2, 5, 0, 1, 2, 3, 4], [2, 6]), ([0, 1, 2, 3, 4, 5, 6, 7], []), ([8, 5, 7, 0, 1, 2, 3, 4, 5, 6, 7], [5, 8])])
def Copy_r1.B : List Nat := [0, 1, 3, 0, 8, 24, 31, 95, 255, 511]
theorem Copy_r1.tab : rtab .any (opsOf Tryz.f17 1) = Copy_r1.T := p8z
theorem Copy_r1.bits : waitsOk Copy_r1.T.2 Copy_r1.B = true := p8z
theorem R_empty {α : Type} {d : Kd α} {e : Nat} {w : World} {base : Nat} {ok : Nat → Prop} {v : Value} (h : w.ownsRow base e d.sz v 0 []) (hok : ∀ k, v.ownBlock = some k → ok k) : d.R e w base ok v [] := ⟨hok, [], h, Reps.none _ _⟩
theorem clones_calls (A : Option Addr) (c : Nat) (w : World) : Calls Tryz.prog 43 #[.slice A 0 c] w fun e w' => ∃ v : Value, e = .returned v ∧ Kd.R Kd.string 9 w' w.heap.size (fun _ => True) v [] ∧ Below w.heap.size w w' := by
  cases A with
  | none =>
    refine (Tryz.slices_Clone_string_nil 0 c w).mono ?_
    rintro e w' ⟨rfl, rfl⟩
    exact ⟨_, rfl, Kd.R_nil _ _ _ _ _, Below.refl _ _⟩
  | some a =>
    refine (Tryz.slices_Clone_string_zero a c w).mono ?_
    rintro e w' ⟨v, rfl, ho, _, hb⟩
    exact ⟨v, rfl, R_empty ho (fun _ _ => trivial), hb⟩
theorem own_emptyN (w : World) : (w.alloc (.cells #[] 28)).ownsRow w.heap.size 28 4 (.slice (some ⟨w.heap.size, 0, none⟩) 0 0) 0 [] :=
  ⟨rfl, .inr ⟨w.heap.size, 0, #[], rfl, Nat.le_refl _, heap_alloc_new w _, Nat.le_refl _, by simp [maxLen], rfl, rfl⟩⟩
theorem clonen_calls (A : Option Addr) (c : Nat) (w : World) : Calls Tryz.prog 44 #[.slice A 0 c] w fun e w' => ∃ v : Value, e = .returned v ∧ Kd.R k28 28 w' w.heap.size (fun _ => True) v [] ∧ Below w.heap.size w w' := by
  cases A with
  | none =>
    have heq : ∀ (w : World) (c : Nat), (binOp .eql 26 (.slice none 0 c) (.slice none 0 0)).run Tryz.prog w = .ok (.bool true) w := fun w c => Lib.run_eql_slice_nil (P := Tryz.prog) w 26 28 none 0 c 0 0 Tryz.underlying26
    go_enter Tryz.func44, Tryz.ntmps44
    go_wp2
    go_ret
    exact ⟨_, rfl, Kd.R_nil _ _ _ _ _, Below.refl _ _⟩
  | some ad =>
    have heq : ∀ (w : World) (n c : Nat), (binOp .eql 26 (.slice (some ad) n c) (.slice none 0 0)).run Tryz.prog w = .ok (.bool false) w := fun w n c => Lib.run_eql_slice_nil (P := Tryz.prog) w 26 28 (some ad) n c 0 0 Tryz.underlying26
    go_enter Tryz.func44, Tryz.ntmps44
    go_wp2
    go_ret
    exact ⟨_, rfl, R_empty (own_emptyN w) (fun _ _ => trivial), (Below.refl _ w).alloc (Nat.le_refl _) _⟩
theorem copy_calls (a0 : Int) (a1 : ByteArray) (A2 : Option Addr) (c2 : Nat) (A3 : Option Addr) (c3 : Nat) (w : World) :
 Calls Tryz.prog 17 #[.agg #[.int .i64 a0, .string a1, .slice A2 0 c2, .slice A3 0 c3]] w fun e w' => ∃ v2 v3 : Value, e = .returned (.agg #[.int .i64 a0, .string a1, v2, v3]) ∧ Kd.R Kd.string 9 w' w.heap.size (fun _ => True) v2 [] ∧ Kd.R k28 28 w' w.heap.size (fun k_ => some k_ ≠ (v2 : Value).ownBlock) v3 [] ∧ Below w.heap.size w w' := by
 go_enter Tryz.func17, Tryz.ntmps17
 go_upto_region 1 with (first
  | ((with_reducible refine gate_dst (N := 1) rfl ?_); refine box_event ?hg (N := 1) ?hd (cs := #[.int .i64 a0, .string a1, .slice A2 0 c2, .slice A3 0 c3]) (t := 28) ?hr ?_; (case hd => rfl); (case hg => rfl); (case hr => exact p12z); intro q xq wq bq hbq; have GQ := hid xq; have BQ := hid bq; have HQ := hid hbq; clear xq bq hbq)
  | ((with_reducible refine gate_dst (N := 2) rfl ?_); refine box_event ?hg (N := 2) ?hd (cs := zcells) (t := 28) ?hr ?_; (case hd => rfl); (case hg => rfl); (case hr => exact p12z); intro r xr wr br hbr; have GR := hid xr; have BR := hid br; have HR := hid hbr; clear xr br hbr))
 have hQ := blk_below BQ.out HR.out
 have hR := BR.out
 have nqr : q ≠ r := by have := blk_lt BQ.out; rw [GR.out]; omega
 have gq : w.heap.size ≤ q := by rw [GQ.out]; omega
 have gr : w.heap.size ≤ r := by rw [GR.out]; exact HQ.out.size
 have hB := below_step HQ.out HR.out
 clear BQ BR HQ HR GQ GR
 have hz2 := cell_of (i := 2) hQ rfl
 have hz3 := cell_of (i := 3) hQ rfl
 refine start_ (n := 10) (S := fun w' => w'.cell? ⟨q, 2, none⟩ = some (.slice A2 0 c2) ∧ w'.cell? ⟨q, 3, none⟩ = some (.slice A3 0 c3)) (ds := [7, 9]) #[false, false, false, false, false, false, false, false, false, false] p8z rfl rfl ⟨hz2, hz3⟩ (fun hHeld => ?_); refine with_tabW Copy_r1.tab Copy_r1.bits (fun HT_ HW_ => ?_)
 have hQ := blk_drew hQ
 have hR := blk_drew hR
 have HBd := hid (below_drew1 hB)
 have HLT : Hid (q < wr.drew.heap.size ∧ r < wr.drew.heap.size) := hid ⟨blk_lt hQ, blk_lt hR⟩
 clear hB hz2 hz3
 revert hQ hR HBd HLT hHeld
 generalize wr.drew = W8
 intro hHeld hQ hR HBd HLT
 refine pure_ (i := 0) (N := some 5) (v := ?_) (a' := ?_) #[true, false, false, false, false, false, false, false, false, false] rfl rfl (any_of HT_.out p8z) (fun _ _ _ h => h) (Or.inl ⟨by rfl, ?_⟩) ?_ ?_
 rotate_left
 ·intro w'
  go_simp
  with_reducible rfl
 rotate_left
 ·simp only [Act.put, List.setIfInBounds_toArray, List.set_cons_zero, List.set_cons_succ, i64_w, i32_w]
  rfl
 refine take_ (i := 1) (N := some 6) (v := ?_) (a' := ?_) #[true, true, false, false, false, false, false, false, false, false] rfl rfl (take_ofW HT_.out HW_.out p8z) (fun _ _ _ h => h) (Or.inl ⟨by rfl, ?_⟩) hHeld ?_ ?_
 rotate_left
 ·rintro w' ⟨s0, s1⟩
  go_simp
  with_reducible rfl
 rotate_left
 ·simp only [Act.put, List.setIfInBounds_toArray, List.set_cons_zero, List.set_cons_succ, i64_w, i32_w]
  rfl
 refine pure_ (i := 3) (N := some 8) (v := ?_) (a' := ?_) #[true, true, false, true, false, false, false, false, false, false] rfl rfl (any_of HT_.out p8z) (fun _ _ _ h => h) (Or.inl ⟨by rfl, ?_⟩) ?_ ?_
 rotate_left
 ·intro w'
  go_simp
  with_reducible rfl
 rotate_left
 ·simp only [Act.put, List.setIfInBounds_toArray, List.set_cons_zero, List.set_cons_succ, i64_w, i32_w]
  rfl
 refine take_ (i := 4) (N := some 9) (v := ?_) (a' := ?_) #[true, true, false, true, true, false, false, false, false, false] rfl rfl (take_ofW HT_.out HW_.out p8z) (fun _ _ _ h => h) (Or.inl ⟨by rfl, ?_⟩) hHeld ?_ ?_
 rotate_left
 ·rintro w' ⟨s0, s1⟩
  go_simp
  with_reducible rfl
 rotate_left
 ·simp only [Act.put, List.setIfInBounds_toArray, List.set_cons_zero, List.set_cons_succ, i64_w, i32_w]
  rfl
 refine one_ (i := 2) (N := some 7) #[true, true, true, true, true, false, false, false, false, false] rfl rfl (one_of HT_.out p8z) (by decide) (fun K hK => ?_)
 refine goes_ Tryz.func43 p8z rfl #[.slice A2 0 c2] (by rfl) rfl rfl p5z ?_
 with_reducible refine (clones_calls A2 c2 _).mono ?_
 rintro e w1 ⟨v2, rfl, r2, hb1⟩
 refine ⟨_, rfl, ?_⟩
 refine hK.out _ _ ⟨(hb1.cell (World.block_lt_of_cell? _ _ hHeld.1)).trans hHeld.1, (hb1.cell (World.block_lt_of_cell? _ _ hHeld.2)).trans hHeld.2⟩ (fun hHeld => ?_)
 clear hK K
 refine norm_ (a' := ?_) ?_ ?_
 rotate_left
 ·show Act.put _ (some 7) _ = _
  simp only [Act.put, List.setIfInBounds_toArray, List.set_cons_zero, List.set_cons_succ, i64_w, i32_w]
  rfl
 obtain ⟨V2, C2, e2⟩ := Kd.R_slice r2
 subst e2
 refine pure_ (i := 6) (N := some 11) (v := ?_) (a' := ?_) #[true, true, true, true, true, false, true, false, false, false] rfl rfl (any_of HT_.out p8z) (fun _ _ _ h => h) (Or.inl ⟨by rfl, ?_⟩) ?_ ?_
 rotate_left
 ·intro w'
  go_simp
  with_reducible rfl
 rotate_left
 ·simp only [Act.put, List.setIfInBounds_toArray, List.set_cons_zero, List.set_cons_succ, i64_w, i32_w]
  rfl
 refine one_ (i := 5) (N := some 10) #[true, true, true, true, true, true, true, false, false, false] rfl rfl (one_of HT_.out p8z) (by decide) (fun K hK => ?_)
 refine goes_ Tryz.func44 p8z rfl #[.slice A3 0 c3] (by rfl) rfl rfl p5z ?_
 with_reducible refine (clonen_calls A3 c3 _).mono ?_
 rintro e w2 ⟨v3, rfl, r3, hb2⟩
 refine ⟨_, rfl, ?_⟩
 refine hK.out _ _ ⟨(hb2.cell (World.block_lt_of_cell? _ _ hHeld.1)).trans hHeld.1, (hb2.cell (World.block_lt_of_cell? _ _ hHeld.2)).trans hHeld.2⟩ (fun hHeld => ?_)
 clear hK K
 refine norm_ (a' := ?_) ?_ ?_
 rotate_left
 ·show Act.put _ (some 10) _ = _
  simp only [Act.put, List.setIfInBounds_toArray, List.set_cons_zero, List.set_cons_succ, i64_w, i32_w]
  rfl
 obtain ⟨V3, C3, e3⟩ := Kd.R_slice r3
 subst e3
 have lt1 := Kd.R_lt r2
 have hB1 := below_step HBd.out hb1
 have r3 : Kd.R k28 28 w2 w.heap.size (fun k => (k ≠ q ∧ k ≠ r) ∧ some k ≠ (Value.slice V2 0 C2).ownBlock) (.slice V3 0 C3) [] := Kd.R_lower (Kd.R_mono (Kd.R_bound r3) (fun k hk => by have := hk.2.1; have := hb1.size; have := HLT.out; exact ⟨⟨by omega, by omega⟩, fun e => by have := lt1 k e.symm; omega⟩)) hB1.size
 have r2 : Kd.R Kd.string 9 w2 w.heap.size (fun k => k ≠ q ∧ k ≠ r) (.slice V2 0 C2) [] := Kd.R_below (Kd.R_lower (Kd.R_mono (Kd.R_bound r2) (fun k hk => by have := hk.2.1; have := HLT.out; constructor <;> omega)) (HBd.out.size)) hb2
 have hB2 := below_step hB1 hb2
 have hQ := blk_below (blk_below hQ hb1) hb2
 have hR := blk_below (blk_below hR hb1) hb2
 clear hB1 lt1 hb1 hb2
 have hc2 := cell_of (i := 2) hQ rfl
 have hf2 := blk_frozen hQ 2
 refine last_ (i := 7) (N := none) #[true, true, true, true, true, true, true, true, false, false] rfl rfl (one_of HT_.out p8z) (by decide) (fun K hK => ?_)
 refine skip_ (w1 := ?_) (by rfl) rfl ?_ ?_
 rotate_left
 ·go_simp
  rfl
 refine hK.out _ _ ?_
 clear hK K hc2 hf2
 have hQ9 := blk_put (cs' := #[.int .i64 a0, .string a1, .slice V2 0 C2, .slice A3 0 c3]) hQ 2 (.slice V2 0 C2) rfl
 have hR9 := blk_far (p := ⟨q, 2, none⟩) hR nqr.symm (.slice V2 0 C2)
 have r2 := Kd.R_far (p := ⟨q, 2, none⟩) r2 (fun k hk => hk.1) (.slice V2 0 C2)
 have r3 := Kd.R_far (p := ⟨q, 2, none⟩) r3 (fun k hk => hk.1.1) (.slice V2 0 C2)
 have hB9 := below_set (j := 2) (v := .slice V2 0 C2) hB2 gq
 clear hQ hR hB2
 refine pure_ (i := 8) (N := some 12) (v := ?_) (a' := ?_) #[true, true, true, true, true, true, true, true, true, false] rfl rfl (any_of HT_.out p8z) (fun _ _ _ h => h) (Or.inl ⟨by rfl, ?_⟩) ?_ ?_
 rotate_left
 ·intro w'
  go_simp
  with_reducible rfl
 rotate_left
 ·simp only [Act.put, List.setIfInBounds_toArray, List.set_cons_zero, List.set_cons_succ, i64_w, i32_w]
  rfl
 have hc3 := cell_of (i := 3) hQ9 rfl
 have hf3 := blk_frozen hQ9 3
 refine last_ (i := 9) (N := none) #[true, true, true, true, true, true, true, true, true, true] rfl rfl (one_of HT_.out p8z) (by decide) (fun K hK => ?_)
 refine skip_ (w1 := ?_) (by rfl) rfl ?_ ?_
 rotate_left
 ·go_simp
  rfl
 have hQ10 := blk_put (cs' := #[.int .i64 a0, .string a1, .slice V2 0 C2, .slice V3 0 C3]) hQ9 3 (.slice V3 0 C3) rfl
 refine hK.out _ _ ?_
 refine done_ (done_of HT_.out p8z) ?_
 have HC := hid (And.intro (Kd.R_far (p := ⟨q, 3, none⟩) r2 (fun k hk => hk.1) (.slice V3 0 C3)) (And.intro (Kd.R_far (p := ⟨q, 3, none⟩) r3 (fun k hk => hk.1.1) (.slice V3 0 C3)) (And.intro hQ10 (And.intro (blk_far (p := ⟨q, 3, none⟩) hR9 nqr.symm (.slice V3 0 C3)) (below_set (j := 3) (v := .slice V3 0 C3) hB9 gq)))))
 clear hK K hQ10 hQ9 hR9 r2 r3 hc3 hf3 hB9
 revert HC
 generalize World.setCell (World.setCell _ _ _) _ _ = W10
 intro HC
 have hc0 := cell_of (i := 0) HC.out.2.2.1 rfl
 have hc1 := cell_of (i := 1) HC.out.2.2.1 rfl
 have hc2 := cell_of (i := 2) HC.out.2.2.1 rfl
 have hc3 := cell_of (i := 3) HC.out.2.2.1 rfl
 have hd0 := cell_of (i := 0) HC.out.2.2.2.1 rfl
 have hd1 := cell_of (i := 1) HC.out.2.2.2.1 rfl
 have hd2 := cell_of (i := 2) HC.out.2.2.2.1 rfl
 have hd3 := cell_of (i := 3) HC.out.2.2.2.1 rfl
 have hf0 := blk_frozen HC.out.2.2.2.1 0
 have hf1 := blk_frozen HC.out.2.2.2.1 1
 have hf2 := blk_frozen HC.out.2.2.2.1 2
 have hf3 := blk_frozen HC.out.2.2.2.1 3
 go_wp2
 go_loopw [16] (fun v wr => v = .int .i64 0 ∧ wr = W10) (fun v _ => 0)
 case atStart => exact ⟨rfl, rfl⟩
 case round =>
  obtain ⟨rfl, rfl⟩ := hrel
  go_upto_region 7 with (fail)
  go_wp2
  have hS := stored4 HC.out.2.2.2.1 (.int .i64 a0) (.string a1) (.slice V2 0 C2) (.slice V3 0 C3)
  refine bodyPost_ret (results_cell_row rfl _ _ r 28 #[.int .i64 a0, .string a1, .slice V2 0 C2, .slice V3 0 C3] (0, 0) _ rfl hS Tryz.underlying28 rfl p8z) rfl ?_
  have q2 := Kd.R_far (p := ⟨r, 3, none⟩) (Kd.R_far (p := ⟨r, 2, none⟩) (Kd.R_far (p := ⟨r, 1, none⟩) (Kd.R_far (p := ⟨r, 0, none⟩) HC.out.1 (fun _ hk => hk.2) (.int .i64 a0)) (fun _ hk => hk.2) (.string a1)) (fun _ hk => hk.2) (.slice V2 0 C2)) (fun _ hk => hk.2) (.slice V3 0 C3)
  have q3 := Kd.R_far (p := ⟨r, 3, none⟩) (Kd.R_far (p := ⟨r, 2, none⟩) (Kd.R_far (p := ⟨r, 1, none⟩) (Kd.R_far (p := ⟨r, 0, none⟩) HC.out.2.1 (fun _ hk => hk.1.2) (.int .i64 a0)) (fun _ hk => hk.1.2) (.string a1)) (fun _ hk => hk.1.2) (.slice V2 0 C2)) (fun _ hk => hk.1.2) (.slice V3 0 C3)
  have q4 := below4 HC.out.2.2.2.2 gr (.int .i64 a0) (.string a1) (.slice V2 0 C2) (.slice V3 0 C3)
  have q2 := Kd.R_mono q2 (ok' := fun _ => True) (fun _ _ => trivial)
  have q3 := Kd.R_mono q3 (ok' := fun k => some k ≠ (Value.slice V2 0 C2).ownBlock) (fun _ hk => hk.2)
  exact ⟨.slice V2 0 C2, .slice V3 0 C3, rfl, q2, q3, q4⟩
def jtree_Copy.f (k : Nat) (a0_0 : Int) (a0_1 : ByteArray) (ac : List ByteArray) (ab : List S28) : Option (Int × ByteArray × List ByteArray × List S28) := if ac.isEmpty = true ∧ ab.isEmpty = true then some (a0_0, a0_1, [], []) else none
theorem jtree_Copy.mono : ∀ a0 a1 a2 a3 k, LeO (jtree_Copy.f k a0 a1 a2 a3) (jtree_Copy.f (k + 1) a0 a1 a2 a3) := fun _ _ _ _ _ => LeO.refl _
theorem jtree_Copy.calls (k : Nat) (a0_0 : Int) (a0_1 : ByteArray) (A0_2 : Option Addr) (c0_2 : Nat) (ac : List ByteArray) (A0_3 : Option Addr) (c0_3 : Nat) (ab : List S28) (r0 : Int) (r1 : ByteArray) (r2 : List ByteArray) (r3 : List S28) (w : World) (hr0_2 : Kd.C Kd.string w A0_2 ac.length ac) (hc0_2 : ac.length ≤ c0_2) (hr0_3 : Kd.C k28 w A0_3 ab.length ab) (hc0_3 : ab.length ≤ c0_3) (h : jtree_Copy.f k a0_0 a0_1 ac ab = some (r0, r1, r2, r3)) :
 Calls Tryz.prog 17 #[.agg #[.int .i64 a0_0, .string a0_1, .slice A0_2 ac.length c0_2, .slice A0_3 ab.length c0_3]] w fun e w' => ∃ v0_ v1_ : Value, e = .returned (.agg #[.int .i64 r0, .string r1, v0_, v1_]) ∧ Kd.R Kd.string 9 w' w.heap.size (fun _ => True) v0_ r2 ∧ Kd.R k28 28 w' w.heap.size (fun k_ => some k_ ≠ (v0_ : Value).ownBlock) v1_ r3 ∧ Below w.heap.size w w' := by
 unfold jtree_Copy.f at h
 split at h
 ·rename_i he
  simp only [Option.some.injEq, Prod.mk.injEq] at h
  obtain ⟨rfl, rfl, rfl, rfl⟩ := h
  obtain rfl := List.isEmpty_iff.1 he.1
  obtain rfl := List.isEmpty_iff.1 he.2
  exact copy_calls a0_0 a0_1 A0_2 c0_2 A0_3 c0_3 w
 ·cases h
end Go.Proofs.YtodnggilomanbaaGreatDoor.Hand
