/-
  jtree: Parse: what it comes to, and the walk.
-/
import Derived.Test.YtodnggilomanbaaGreatDoorAp
import Derived.Test.YtodnggilomanbaaGreatDoorHandStep
import Derived.Test.YtodnggilomanbaaGreatDoorHandCatch
set_option maxRecDepth 100000
set_option maxHeartbeats 8000000
namespace Go.Proofs.YtodnggilomanbaaGreatDoor.Hand
open Go.RowKit Go.Lib Go.Proofs.YtodnggilomanbaaGreatDoorW.PrintWords Go.Proofs.YtodnggilomanbaaGreatDoorW.PrintLast Go.Proofs.YtodnggilomanbaaGreatDoorW.PrintMore Go.Proofs.YtodnggilomanbaaGreatDoor.PAll
set_option linter.unusedVariables false
set_option linter.unusedSimpArgs false

def parseF (s : ByteArray) : S28 × Int × Int :=
  if 1048576 < (s.size : Int) then (z28, 0, 5)
  else match nodeF s 61 0 0 0 with
    | .error (p, c) => (z28, p, c)
    | .ok (nd, x, _, _) => if blanksF s x < (s.size : Int) then (z28, blanksF s x, 140) else (nd, 0, 0)
def ParseOut (w w' : World) (r : S28 × Int × Int) (e : Ending) : Prop := ∃ v2 v3 : Value, e = .returned (.tuple #[.agg #[.int .i64 r.1.f0, .string r.1.f1, v2, v3], .int .i64 r.2.1, .int .i64 r.2.2]) ∧ Kd.R Kd.string 9 w' w.heap.size (fun _ => True) v2 r.1.f2 ∧ Kd.R k28 28 w' w.heap.size (fun k_ => some k_ ≠ (v2 : Value).ownBlock) v3 r.1.f3 ∧ Below w.heap.size w w'
theorem ParseOut.zero {w w' : World} {p c : Int} (hb : Below w.heap.size w w') : ParseOut w w' (z28, p, c) (.returned (.tuple #[.agg zcells, .int .i64 p, .int .i64 c])) :=
  ⟨_, _, rfl, Kd.R_nil _ _ _ _ _, Kd.R_nil _ _ _ _ _, hb⟩
theorem d9 {tmps : Array Value} {W : World} {bn ba be : Nat} {cs : Array Value} {p c : Int} (h2 : tmps.getD 2 undef = .pointer (some ⟨bn, 0, none⟩)) (h3 : tmps.getD 3 undef = .pointer (some ⟨ba, 0, none⟩)) (h4 : tmps.getD 4 undef = .pointer (some ⟨be, 0, none⟩))
    (hn : W.heap[bn]? = some (.cells cs 28 (0, 0))) (hl : cs.size = 4) (ha : W.heap[ba]? = some (.cells #[.int .i64 p] 3 (0, 0))) (he : W.heap[be]? = some (.cells #[.int .i64 c] 29 (0, 0))) :
    (results Tryz.f7 tmps).run Tryz.prog W = .ok (.tuple #[.agg cs, .int .i64 p, .int .i64 c]) W := by
  have h2' : tmps[2]?.getD undef = .pointer (some ⟨bn, 0, none⟩) := by simpa using h2
  have h3' : tmps[3]?.getD undef = .pointer (some ⟨ba, 0, none⟩) := by simpa using h3
  have h4' : tmps[4]?.getD undef = .pointer (some ⟨be, 0, none⟩) := by simpa using h4
  have hl' := run_loadVar_row (P := Tryz.prog) W bn 28 28 cs (0, 0) _ hn Tryz.underlying28 rfl (by rw [hl]; kernel_rfl)
  have ha' := cell_of (i := 0) ha rfl
  have he' := cell_of (i := 0) he rfl
  have e : Tryz.f7.results = #[.cell 2 28, .cell 3 3, .cell 4 29] := rfl
  simp only [List.getElem_toArray, List.getElem_cons_zero] at ha' he'
  have hla : (loadVar 3 ⟨ba, 0, none⟩).run Tryz.prog W = .ok (.int .i64 p) W := by simp [loadVar, isAgg, run_underlying Tryz.underlying3, ha']
  have hle : (loadVar 29 ⟨be, 0, none⟩).run Tryz.prog W = .ok (.int .i64 c) W := by simp [loadVar, isAgg, run_underlying Tryz.underlying29, he']
  simp [results, e, h2', h3', h4', asAddr, hl', hla, hle]
theorem ix (s : ByteArray) (w : World) (hl : 1048576 < (s.size : Int)) : Calls Tryz.prog 7 #[.string s] w fun e w' => ParseOut w w' (z28, 0, 5) e := by
  have hq : decide (1048576 < (s.size : Int)) = true := decide_eq_true hl
  go_enter_defers Tryz.func7, Tryz.ntmps7
  go_upto_if 8 with (first
    | ((with_reducible refine gate_dst (N := 2) rfl ?_); refine box_event ?hg (N := 2) ?hd (cs := zcells) (t := 28) ?hr ?_; (case hd => rfl); (case hg => rfl); (case hr => exact p9z); intro bn gn w2 bkn hb2; have GN := hid gn; have BN := hid bkn; have HB2 := hid hb2; clear gn bkn hb2)
    | ((with_reducible refine gate_dst (N := 3) rfl ?_); refine box_event ?hg (N := 3) ?hd (cs := #[.int .i64 0]) (t := 3) ?hr ?_; (case hd => rfl); (case hg => rfl); (case hr => exact p9z); intro ba ga w3 bka hb3; have GA := hid ga; have BA := hid bka; have HB3 := hid hb3; clear ga bka hb3)
    | ((with_reducible refine gate_dst (N := 4) rfl ?_); refine box_event ?hg (N := 4) ?hd (cs := #[.int .i64 0]) (t := 29) ?hr ?_; (case hd => rfl); (case hg => rfl); (case hr => exact p9z); intro be ge w4 bke hb4; have GE := hid ge; have BE := hid bke; have HB4 := hid hb4; clear ge bke hb4))
  have bn4 := blk_below (blk_below BN.out HB3.out) HB4.out
  have ba4 := blk_below BA.out HB4.out
  have be4 := BE.out
  have n1 : bn ≠ ba := by have := blk_lt BN.out; rw [GA.out]; omega
  have n2 : bn ≠ be := by have := blk_lt (blk_below BN.out HB3.out); rw [GE.out]; omega
  have n3 : ba ≠ be := by have := blk_lt BA.out; rw [GE.out]; omega
  have hB := below_step (below_step HB2.out HB3.out) HB4.out
  have g1 : w.heap.size ≤ bn := by rw [GN.out]; omega
  have g2 : w.heap.size ≤ ba := by rw [GA.out]; exact HB2.out.size
  have g3 : w.heap.size ≤ be := by rw [GE.out]; exact (below_step HB2.out HB3.out).size
  have H4 := hid (And.intro hB (And.intro g1 (And.intro g2 (And.intro g3 (And.intro n1 (And.intro n2 n3))))))
  obtain ⟨hc0, hc1, hc2, hc3, hf0, hf1, hf2, hf3⟩ := cells4 bn4
  have hca := cell_of (i := 0) ba4 rfl
  have hfa := blk_frozen ba4 0
  have hce := cell_of (i := 0) be4 rfl
  have hfe := blk_frozen be4 0
  have HBs := hid (And.intro bn4 (And.intro ba4 be4))
  clear bn4 ba4 be4 hB g1 g2 g3
  have m1 := n1.symm
  have m2 := n2.symm
  have m3 := n3.symm
  go_wp2
  have hN := blk_far (p := ⟨be, 0, none⟩) (blk_far (p := ⟨ba, 0, none⟩) (stored4 HBs.out.1 (.int .i64 0) (.string (⟨#[]⟩ : ByteArray)) (.slice none 0 0) (.slice none 0 0)) n1 (.int .i64 0)) n2 (.int .i64 5)
  have hA := blk_far (p := ⟨be, 0, none⟩) (blk_put (cs' := #[.int .i64 0]) (far4 HBs.out.2.1 m1 (.int .i64 0) (.string (⟨#[]⟩ : ByteArray)) (.slice none 0 0) (.slice none 0 0)) 0 (.int .i64 0) rfl) n3 (.int .i64 5)
  have hE := blk_put (cs' := #[.int .i64 5]) (blk_far (p := ⟨ba, 0, none⟩) (far4 HBs.out.2.2 m2 (.int .i64 0) (.string (⟨#[]⟩ : ByteArray)) (.slice none 0 0) (.slice none 0 0)) m3 (.int .i64 0)) 0 (.int .i64 5) rfl
  exact ⟨_, d9 rfl rfl rfl hN rfl hA hE, ParseOut.zero (below_set (below_set (below4 H4.out.1 H4.out.2.1 _ _ _ _) H4.out.2.2.1) H4.out.2.2.2.1)⟩
theorem gP (s : ByteArray) (w : World) (HTAB : Tabs w) (hl : ¬ 1048576 < (s.size : Int)) : Calls Tryz.prog 7 #[.string s] w fun e w' => ParseOut w w' (parseF s) e := by
 have hmf : ∀ (fn : Fn) (first cap : Array Value) (w : World), (Instr.makeFunc fn first cap).run Tryz.prog w = .ok (.func fn first cap) w := fun _ _ _ _ => rfl
 have hq : decide (1048576 < (s.size : Int)) = false := decide_eq_false hl
 go_enter_defers Tryz.func7, Tryz.ntmps7
 go_upto_if 8 with (first
  | ((with_reducible refine gate_dst (N := 2) rfl ?_); refine box_event ?hg (N := 2) ?hd (cs := zcells) (t := 28) ?hr ?_; (case hd => rfl); (case hg => rfl); (case hr => exact p9z); intro bn gn w2 bkn hb2; have GN := hid gn; have BN := hid bkn; have HB2 := hid hb2; clear gn bkn hb2)
  | ((with_reducible refine gate_dst (N := 3) rfl ?_); refine box_event ?hg (N := 3) ?hd (cs := #[.int .i64 0]) (t := 3) ?hr ?_; (case hd => rfl); (case hg => rfl); (case hr => exact p9z); intro ba ga w3 bka hb3; have GA := hid ga; have BA := hid bka; have HB3 := hid hb3; clear ga bka hb3)
  | ((with_reducible refine gate_dst (N := 4) rfl ?_); refine box_event ?hg (N := 4) ?hd (cs := #[.int .i64 0]) (t := 29) ?hr ?_; (case hd => rfl); (case hg => rfl); (case hr => exact p9z); intro be ge w4 bke hb4; have GE := hid ge; have BE := hid bke; have HB4 := hid hb4; clear ge bke hb4))
 have bn4 := blk_below (blk_below BN.out HB3.out) HB4.out
 have ba4 := blk_below BA.out HB4.out
 have be4 := BE.out
 have n1 : bn ≠ ba := by have := blk_lt BN.out; rw [GA.out]; omega
 have n2 : bn ≠ be := by have := blk_lt (blk_below BN.out HB3.out); rw [GE.out]; omega
 have n3 : ba ≠ be := by have := blk_lt BA.out; rw [GE.out]; omega
 have hB := below_step (below_step HB2.out HB3.out) HB4.out
 have g1 : w.heap.size ≤ bn := by rw [GN.out]; omega
 have g2 : w.heap.size ≤ ba := by rw [GA.out]; exact HB2.out.size
 have g3 : w.heap.size ≤ be := by rw [GE.out]; exact (below_step HB2.out HB3.out).size
 have H4 := hid (And.intro hB (And.intro g1 (And.intro g2 (And.intro g3 (And.intro n1 (And.intro n2 n3))))))
 have HBs := hid (And.intro bn4 (And.intro ba4 be4))
 clear bn4 ba4 be4 hB g1 g2 g3 n1 n2 n3 BN BA BE GN GA GE
 go_upto_region 5 with (((with_reducible refine gate_dst (N := 13) rfl ?_); refine box_event ?hg (N := 13) ?hd (cs := #[.string s, .int .i64 0, .int .i64 0, .int .i64 0]) (t := 67) ?hr ?_; (case hd => rfl); (case hg => rfl); (case hr => exact p9z); intro g xg w5 bkx hbx; have GG := hid xg; have BG := hid bkx; have HB5 := hid hbx; clear xg bkx hbx))
 have lN := blk_lt HBs.out.1
 have lA := blk_lt HBs.out.2.1
 have lE := blk_lt HBs.out.2.2
 have hg : g = w4.heap.size := GG.out
 have hs : s.size ≤ 1073741824 := by omega
 have hI5 : IsS67 w4 w5 g s 0 0 0 := ⟨BG.out, Nat.le_of_eq hg.symm⟩
 have hcall := fh g s w4 hs (HTAB.below H4.out.1) 60 0 (by omega) (by decide) w5 0 0 hI5 HB5.out (by omega) (by omega) (by omega) (by omega)
 have hgo := dn s 61 0 0 0
 have lt5 : w4.heap.size < w5.heap.size := by have := blk_lt BG.out; omega
 have HG := hid (And.intro hg (And.intro lN (And.intro lA (And.intro lE lt5))))
 clear hg hI5 lN lA lE lt5
 have hpf : parseF s = (match nodeF s 61 0 0 0 with
  | .error (p, c) => (z28, p, c)
  | .ok (nd, x, _, _) => if blanksF s x < (s.size : Int) then (z28, blanksF s x, 140) else (nd, 0, 0)) := by rw [parseF, if_neg hl]
 rcases hn : nodeF s 61 0 0 0 with ⟨p, c⟩ | ⟨nd, x, m, d⟩
 ·rw [hn] at hpf hcall
  have HPF := hid hpf
  clear hpf hgo hn
  go_wp2_with (go_at_call 29; refine hcall.mono ?_; rintro e w6 ⟨rfl, hb6⟩; have HB6 := hid hb6; clear hb6)
  refine leaves_cons (f := 28) (args := #[.pointer (some ⟨bn, 0, none⟩), .pointer (some ⟨ba, 0, none⟩), .pointer (some ⟨be, 0, none⟩)]) (by simp) (by simp [go_sem]) ?_
  refine (catch_pan bn ba be _ _ _ _ _ _ p c [] w6 (blk_below HBs.out.1 HB6.out) (blk_below HBs.out.2.1 HB6.out) (blk_below HBs.out.2.2 HB6.out) H4.out.2.2.2.2.1 H4.out.2.2.2.2.2.1 H4.out.2.2.2.2.2.2).mono ?_
  rintro e u' w7 ⟨rfl, rfl, hN, hA, hE, hW⟩
  have hB7 := hW w (below_step H4.out.1 HB6.out) H4.out.2.1 H4.out.2.2.1 H4.out.2.2.2.1
  refine ⟨_, d9 rfl rfl rfl hN rfl hA hE, ?_⟩
  rw [HPF.out]
  exact ParseOut.zero hB7
 ·rw [hn] at hpf hcall
  obtain ⟨x0, x1, _, _, _⟩ := hgo nd x m d (by omega) (by omega) (by omega) (by omega) hn
  have hbx := ca (s := s) (x := x) (by omega) x1
  obtain ⟨y, hy⟩ : ∃ y, blanksF s x = y := ⟨_, rfl⟩
  simp only at hpf
  rw [hy] at hbx hpf
  have HPF := hid hpf
  have HX := hid (And.intro x0 (And.intro x1 (And.intro hy hbx)))
  clear hpf hgo hn x0 x1 hy hbx
  go_upto_region 6 with (go_at_call 29; refine hcall.mono ?_; rintro e w6 ⟨v2, v3, rfl, r2, r3, hi, hb, hk⟩; obtain ⟨A2, c2, e2⟩ := Kd.R_slice r2; obtain ⟨A3, c3, e3⟩ := Kd.R_slice r3; subst e2; subst e3; have HR2 := hid (And.intro r2 r3); clear r2 r3; have HH := hid (And.intro hi (And.intro hb hk)); have bn6 := blk_below HBs.out.1 hb; have hc0 := cell_of (i := 0) bn6 rfl; have hc1 := cell_of (i := 1) bn6 rfl; have hc2 := cell_of (i := 2) bn6 rfl; have hc3 := cell_of (i := 3) bn6 rfl; have hf0 := blk_frozen bn6 0; have hf1 := blk_frozen bn6 1; have hf2 := blk_frozen bn6 2; have hf3 := blk_frozen bn6 3; clear hi hb hk bn6)
  have gN : bn ≠ g := by have := HG.out.1; have := HG.out.2.1; omega
  have gA : ba ≠ g := by have := HG.out.1; have := HG.out.2.2.1; omega
  have gE : be ≠ g := by have := HG.out.1; have := HG.out.2.2.2.1; omega
  have wg : w.heap.size ≤ g := by rw [HG.out.1]; exact H4.out.1.size
  have I6 : IsS67 w w6 g s x m d := ⟨HH.out.1.1, wg⟩
  have I6 := (((I6.far (p := ⟨bn, 0, none⟩) gN.symm (.int .i64 nd.f0)).far (p := ⟨bn, 1, none⟩) gN.symm (.string nd.f1)).far (p := ⟨bn, 2, none⟩) gN.symm (.slice A2 nd.f2.length c2)).far (p := ⟨bn, 3, none⟩) gN.symm (.slice A3 nd.f3.length c3)
  have B6 := below4 (below_step H4.out.1 HH.out.2.1) H4.out.2.1 (.int .i64 nd.f0) (.string nd.f1) (.slice A2 nd.f2.length c2) (.slice A3 nd.f3.length c3)
  have N6 := stored4 (blk_below HBs.out.1 HH.out.2.1) (.int .i64 nd.f0) (.string nd.f1) (.slice A2 nd.f2.length c2) (.slice A3 nd.f3.length c3)
  have A6 := far4 (blk_below HBs.out.2.1 HH.out.2.1) H4.out.2.2.2.2.1.symm (.int .i64 nd.f0) (.string nd.f1) (.slice A2 nd.f2.length c2) (.slice A3 nd.f3.length c3)
  have E6 := far4 (blk_below HBs.out.2.2 HH.out.2.1) H4.out.2.2.2.2.2.1.symm (.int .i64 nd.f0) (.string nd.f1) (.slice A2 nd.f2.length c2) (.slice A3 nd.f3.length c3)
  have q2 := Kd.R_mono (Kd.R_bound (HH.out.1.apart HR2.out.1 (by decide))) (ok' := fun k => True ∧ k ≠ g ∧ k ≠ bn ∧ k ≠ ba ∧ k ≠ be) (fun k hk => by have := hk.2.1; have := HG.out.2; exact ⟨trivial, hk.1.2, by omega, by omega, by omega⟩)
  have q3 := Kd.R_mono (Kd.R_bound (HH.out.1.apart HR2.out.2 (by decide))) (ok' := fun k => some k ≠ (Value.slice A2 nd.f2.length c2).ownBlock ∧ k ≠ g ∧ k ≠ bn ∧ k ≠ ba ∧ k ≠ be) (fun k hk => by have := hk.2.1; have := HG.out.2; exact ⟨hk.1.1, hk.1.2, by omega, by omega, by omega⟩)
  have q2 := Kd.R_far (p := ⟨bn, 3, none⟩) (Kd.R_far (p := ⟨bn, 2, none⟩) (Kd.R_far (p := ⟨bn, 1, none⟩) (Kd.R_far (p := ⟨bn, 0, none⟩) q2 (fun _ hk => hk.2.2.1) (.int .i64 nd.f0)) (fun _ hk => hk.2.2.1) (.string nd.f1)) (fun _ hk => hk.2.2.1) (.slice A2 nd.f2.length c2)) (fun _ hk => hk.2.2.1) (.slice A3 nd.f3.length c3)
  have q3 := Kd.R_far (p := ⟨bn, 3, none⟩) (Kd.R_far (p := ⟨bn, 2, none⟩) (Kd.R_far (p := ⟨bn, 1, none⟩) (Kd.R_far (p := ⟨bn, 0, none⟩) q3 (fun _ hk => hk.2.2.1) (.int .i64 nd.f0)) (fun _ hk => hk.2.2.1) (.string nd.f1)) (fun _ hk => hk.2.2.1) (.slice A2 nd.f2.length c2)) (fun _ hk => hk.2.2.1) (.slice A3 nd.f3.length c3)
  clear hc0 hc1 hc2 hc3 hf0 hf1 hf2 hf3 hcall
  have HP := hid (And.intro I6 (And.intro B6 (And.intro N6 (And.intro A6 (And.intro E6 (And.intro q2 q3))))))
  clear I6 B6 N6 A6 E6 q2 q3 HR2
  revert HP
  generalize World.setCell (World.setCell _ _ _) _ _ = W6
  intro HP
  have hbl := cx g s x m d w W6 HP.out.1 HP.out.2.1 (by have := HX.out.1; omega) HX.out.2.1 (by omega)
  rw [HX.out.2.2.1] at hbl
  have y1 := HX.out.2.2.2.2
  by_cases hlt : y < (s.size : Int)
  case pos =>
   have hq2 : decide (y < (s.size : Int)) = true := decide_eq_true hlt
   have hpf := HPF.out
   rw [if_pos hlt] at hpf
   have HPF2 := hid hpf
   clear hpf HPF hlt y1
   go_wp2_with (first
    | (go_at_call 30; refine hbl.mono ?_; rintro e w7 ⟨rfl, hi, hb, hk⟩; have hz1 := cellS67_1 hi.1; have H7 := hid (And.intro hb hk); clear hb hk)
    | (go_at_call 31; refine (bE _ _ _).mono ?_; rintro e w8 ⟨rfl, rfl⟩))
   refine leaves_cons (f := 28) (args := #[.pointer (some ⟨bn, 0, none⟩), .pointer (some ⟨ba, 0, none⟩), .pointer (some ⟨be, 0, none⟩)]) (by simp) (by simp [go_sem]) ?_
   refine (catch_pan bn ba be _ _ _ _ _ _ y 140 [] _ (H7.out.2.blk HP.out.2.2.1 gN (by simp)) (H7.out.2.blk HP.out.2.2.2.1 gA (by simp)) (H7.out.2.blk HP.out.2.2.2.2.1 gE (by simp)) H4.out.2.2.2.2.1 H4.out.2.2.2.2.2.1 H4.out.2.2.2.2.2.2).mono ?_
   rintro e u' w8 ⟨rfl, rfl, hN, hA, hE, hW⟩
   have hB7 := hW w H7.out.1 H4.out.2.1 H4.out.2.2.1 H4.out.2.2.2.1
   refine ⟨_, d9 rfl rfl rfl hN rfl hA hE, ?_⟩
   rw [HPF2.out]
   exact ParseOut.zero hB7
  have hq2 : decide (y < (s.size : Int)) = false := decide_eq_false hlt
  have hpf := HPF.out
  rw [if_neg hlt] at hpf
  have HPF2 := hid hpf
  clear hpf HPF hlt y1
  have m1 := H4.out.2.2.2.2.1.symm
  have m2 := H4.out.2.2.2.2.2.1.symm
  have m3 := H4.out.2.2.2.2.2.2.symm
  have n1 := H4.out.2.2.2.2.1
  have n2 := H4.out.2.2.2.2.2.1
  have n3 := H4.out.2.2.2.2.2.2
  go_upto_region 9 with (go_at_call 30; refine hbl.mono ?_; rintro e w7 ⟨rfl, hi, hb, hk⟩; have hz1 := cellS67_1 hi.1; have H7 := hid (And.intro hb hk); clear hb hk)
  have N7 := H7.out.2.blk HP.out.2.2.1 gN (by simp)
  have A7 := H7.out.2.blk HP.out.2.2.2.1 gA (by simp)
  have E7 := H7.out.2.blk HP.out.2.2.2.2.1 gE (by simp)
  have q2 := Kd.R_keep HP.out.2.2.2.2.2.1 H7.out.2 (fun k hk => hk.2.1)
  have q3 := Kd.R_keep HP.out.2.2.2.2.2.2 H7.out.2 (fun k hk => hk.2.1)
  have HP7 := hid (And.intro H7.out.1 (And.intro N7 (And.intro A7 (And.intro E7 (And.intro q2 q3)))))
  clear q2 q3 HP H7 hz1
  obtain ⟨hc0, hc1, hc2, hc3, hf0, hf1, hf2, hf3⟩ := cells4 N7
  have hca := cell_of (i := 0) A7 rfl
  have hfa := blk_frozen A7 0
  have hce := cell_of (i := 0) E7 rfl
  have hfe := blk_frozen E7 0
  clear N7 A7 E7
  go_wp2
  refine leaves_cons (f := 28) (args := #[.pointer (some ⟨bn, 0, none⟩), .pointer (some ⟨ba, 0, none⟩), .pointer (some ⟨be, 0, none⟩)]) (by simp) (by simp [go_sem]) ?_
  refine (iw bn ba be _).mono ?_
  rintro e u' w9 ⟨rfl, rfl, rfl⟩
  have s4 : ∀ {W : World}, W.heap[bn]? = some (.cells #[.int .i64 nd.f0, .string nd.f1, .slice A2 nd.f2.length c2, .slice A3 nd.f3.length c3] 28 (0, 0)) → ((((W.setCell ⟨bn, 0, none⟩ (.int .i64 nd.f0)).setCell ⟨bn, 1, none⟩ (.string nd.f1)).setCell ⟨bn, 2, none⟩ (.slice A2 nd.f2.length c2)).setCell ⟨bn, 3, none⟩ (.slice A3 nd.f3.length c3)).heap[bn]? = some (.cells #[.int .i64 nd.f0, .string nd.f1, .slice A2 nd.f2.length c2, .slice A3 nd.f3.length c3] 28 (0, 0)) := fun h => blk_put (blk_put (blk_put (blk_put h 0 _ rfl) 1 _ rfl) 2 _ rfl) 3 _ rfl
  have hN := blk_far (p := ⟨be, 0, none⟩) (blk_far (p := ⟨ba, 0, none⟩) (s4 HP7.out.2.1) n1 (.int .i64 0)) n2 (.int .i64 0)
  have hA := blk_far (p := ⟨be, 0, none⟩) (blk_put (cs' := #[.int .i64 0]) (far4 HP7.out.2.2.1 m1 (.int .i64 nd.f0) (.string nd.f1) (.slice A2 nd.f2.length c2) (.slice A3 nd.f3.length c3)) 0 (.int .i64 0) rfl) n3 (.int .i64 0)
  have hE := blk_put (cs' := #[.int .i64 0]) (blk_far (p := ⟨ba, 0, none⟩) (far4 HP7.out.2.2.2.1 m2 (.int .i64 nd.f0) (.string nd.f1) (.slice A2 nd.f2.length c2) (.slice A3 nd.f3.length c3)) m3 (.int .i64 0)) 0 (.int .i64 0) rfl
  refine ⟨_, d9 rfl rfl rfl hN rfl hA hE, ?_⟩
  rw [HPF2.out]
  have hB7 := below_set (j := 0) (v := .int .i64 0) (below_set (j := 0) (v := .int .i64 0) (below4 HP7.out.1 H4.out.2.1 (.int .i64 nd.f0) (.string nd.f1) (.slice A2 nd.f2.length c2) (.slice A3 nd.f3.length c3)) H4.out.2.2.1) H4.out.2.2.2.1
  have le5 : w.heap.size ≤ w5.heap.size := by have := H4.out.1.size; have := HG.out.2.2.2.2; omega
  have q2 := Kd.R_far (p := ⟨bn, 3, none⟩) (Kd.R_far (p := ⟨bn, 2, none⟩) (Kd.R_far (p := ⟨bn, 1, none⟩) (Kd.R_far (p := ⟨bn, 0, none⟩) HP7.out.2.2.2.2.1 (fun _ hk => hk.2.2.1) (.int .i64 nd.f0)) (fun _ hk => hk.2.2.1) (.string nd.f1)) (fun _ hk => hk.2.2.1) (.slice A2 nd.f2.length c2)) (fun _ hk => hk.2.2.1) (.slice A3 nd.f3.length c3)
  have q3 := Kd.R_far (p := ⟨bn, 3, none⟩) (Kd.R_far (p := ⟨bn, 2, none⟩) (Kd.R_far (p := ⟨bn, 1, none⟩) (Kd.R_far (p := ⟨bn, 0, none⟩) HP7.out.2.2.2.2.2 (fun _ hk => hk.2.2.1) (.int .i64 nd.f0)) (fun _ hk => hk.2.2.1) (.string nd.f1)) (fun _ hk => hk.2.2.1) (.slice A2 nd.f2.length c2)) (fun _ hk => hk.2.2.1) (.slice A3 nd.f3.length c3)
  have q2 := Kd.R_far (p := ⟨be, 0, none⟩) (Kd.R_far (p := ⟨ba, 0, none⟩) q2 (fun _ hk => hk.2.2.2.1) (.int .i64 0)) (fun _ hk => hk.2.2.2.2) (.int .i64 0)
  have q3 := Kd.R_far (p := ⟨be, 0, none⟩) (Kd.R_far (p := ⟨ba, 0, none⟩) q3 (fun _ hk => hk.2.2.2.1) (.int .i64 0)) (fun _ hk => hk.2.2.2.2) (.int .i64 0)
  exact ⟨_, _, rfl, Kd.R_lower (Kd.R_mono q2 (fun _ _ => trivial)) le5, Kd.R_lower (Kd.R_mono q3 (fun _ hk => hk.1)) le5, hB7⟩
theorem gQ (s : ByteArray) (w : World) (HTAB : Tabs w) : Calls Tryz.prog 7 #[.string s] w fun e w' => ParseOut w w' (parseF s) e := by
 by_cases hl : 1048576 < (s.size : Int)
 case neg =>
  exact gP s w HTAB hl
 have := ix s w hl
 rw [parseF, if_pos hl]
 exact this
def bM.f (k : Nat) (a0 : ByteArray) : Option (Int × ByteArray × List ByteArray × List S28 × Int × Int) := some ((parseF a0).1.f0, (parseF a0).1.f1, (parseF a0).1.f2, (parseF a0).1.f3, (parseF a0).2.1, (parseF a0).2.2)
theorem bM.calls (k : Nat) (a0 : ByteArray) (r0 : Int) (r1 : ByteArray) (r2 : List ByteArray) (r3 : List S28) (r4 r5 : Int) (w : World) (h : bM.f k a0 = some (r0, r1, r2, r3, r4, r5)) (HTB_ : Tabs w) :
    Calls Tryz.prog 7 #[.string a0] w fun e w' => ∃ v0_ v1_ : Value, e = .returned (.tuple #[.agg #[.int .i64 r0, .string r1, v0_, v1_], .int .i64 r4, .int .i64 r5]) ∧ Kd.R Kd.string 9 w' w.heap.size (fun _ => True) v0_ r2 ∧ Kd.R k28 28 w' w.heap.size (fun k_ => some k_ ≠ (v0_ : Value).ownBlock) v1_ r3 ∧ Below w.heap.size w w' := by
  unfold bM.f at h
  simp only [Option.some.injEq, Prod.mk.injEq] at h
  obtain ⟨rfl, rfl, rfl, rfl, rfl, rfl⟩ := h
  exact gQ a0 w HTB_
end Go.Proofs.YtodnggilomanbaaGreatDoor.Hand
