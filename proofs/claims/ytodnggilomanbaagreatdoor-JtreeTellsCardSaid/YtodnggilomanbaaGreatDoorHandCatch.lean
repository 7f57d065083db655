/-
  jtree: what Parse defers: it recovers what the reader throws. The walks.
-/
import Derived.Test.YtodnggilomanbaaGreatDoorAp
import Derived.Test.YtodnggilomanbaaGreatDoorHandStep
import Derived.Test.YtodnggilomanbaaGreatDoorHandNodeW
import Derived.Defers
import Derived.Recover
set_option maxRecDepth 100000
set_option maxHeartbeats 4000000
namespace Go.Proofs.YtodnggilomanbaaGreatDoor.Hand
open Go.RowKit Go.Lib Go.Proofs.YtodnggilomanbaaGreatDoorW.PrintWords Go.Proofs.YtodnggilomanbaaGreatDoorW.PrintLast Go.Proofs.YtodnggilomanbaaGreatDoorW.PrintMore Go.Proofs.YtodnggilomanbaaGreatDoor.PAll
set_option linter.unusedVariables false
set_option linter.unusedSimpArgs false

def parse1_r7.T : Bool × List (List Nat × List Nat) := (true, [([], []), ([], []), ([1], [1]), ([], []), ([3], [3]), ([0, 0], [0]), ([2, 5, 0, 1, 2, 5], [2]), ([4, 6, 0, 1, 2, 3, 4, 5, 6], [4])])
def parse1_r7.B : List Nat := [0, 0, 2, 0, 8, 1, 6, 24]
theorem parse1_r7.tab : rtab .any (opsOf Tryz.f28 7) = parse1_r7.T := p12z
theorem parse1_r7.bits : waitsOk parse1_r7.T.2 parse1_r7.B = true := p12z
theorem wp_act {P : Program} {c : Code} {Q : Exit → Act → World → Prop} {a a' : Act} {w : World} (h : a = a') (hw : c.wp P Q a' w) : c.wp P Q a w := h ▸ hw
theorem iw (bn ba be : Nat) (w : World) :
    CallsD Tryz.prog 28 #[.pointer (some ⟨bn, 0, none⟩), .pointer (some ⟨ba, 0, none⟩), .pointer (some ⟨be, 0, none⟩)] .returning w fun e u' w' => e = .returned (.tuple #[]) ∧ u' = .returning ∧ w' = w := by
  refine callsD_of_wpS Tryz.func28 rfl fun c₀ cs hu => ?_
  apply wpS_seq
  apply wpS_region
  simp [wpOpsS, go_sem, recoverD, hu, Tryz.ntmps28, Exit.thenS]
  refine wpS_of_wp ?_
  refine wp_act (a' := ⟨#[.pointer (some ⟨bn, 0, none⟩), .pointer (some ⟨ba, 0, none⟩), .pointer (some ⟨be, 0, none⟩), undef, undef, undef, .nilIface, undef, undef, undef, undef, undef, undef, undef, undef, undef, undef], []⟩) rfl ?_
  go_wp2
  cases c₀
  simp_all [bodyPostS, results, Tryz.results28]
theorem fq (p c : Int) (w : World) : (Instr.typeAssert (.iface 64 (.agg #[.int .i64 p, .int .i64 c])) 20 64 true).run Tryz.prog w = .ok (.tuple #[.agg #[.int .i64 p, .int .i64 c], .bool true]) w := by
  simp [Instr.typeAssert, run_underlying Tryz.underlying64]
theorem catch_pan (bn ba be : Nat) (u0 u1 u2 u3 : Value) (a0 e0 p c : Int) (older : List PanicEntry) (w : World) (hn : w.heap[bn]? = some (.cells #[u0, u1, u2, u3] 28 (0, 0))) (ha : w.heap[ba]? = some (.cells #[.int .i64 a0] 3 (0, 0))) (he : w.heap[be]? = some (.cells #[.int .i64 e0] 29 (0, 0))) (n1 : bn ≠ ba) (n2 : bn ≠ be) (n3 : ba ≠ be) :
 CallsD Tryz.prog 28 #[.pointer (some ⟨bn, 0, none⟩), .pointer (some ⟨ba, 0, none⟩), .pointer (some ⟨be, 0, none⟩)] (.panicking ({ v := .iface 64 (.agg #[.int .i64 p, .int .i64 c]), recovered := false } :: older)) w fun e u' w' =>
  e = .returned (.tuple #[]) ∧ u' = .panicking ({ v := .iface 64 (.agg #[.int .i64 p, .int .i64 c]), recovered := true } :: older) ∧ w'.heap[bn]? = some (.cells zcells 28 (0, 0)) ∧ w'.heap[ba]? = some (.cells #[.int .i64 p] 3 (0, 0)) ∧ w'.heap[be]? = some (.cells #[.int .i64 c] 29 (0, 0)) ∧ (∀ w0 : World, Below w0.heap.size w0 w → w0.heap.size ≤ bn → w0.heap.size ≤ ba → w0.heap.size ≤ be → Below w0.heap.size w0 w') := by
 refine callsD_of_wpS Tryz.func28 rfl fun c₀ cs hu => ?_
 apply wpS_seq
 apply wpS_region
 simp [wpOpsS, go_sem, recoverD, hu, Tryz.ntmps28, Exit.thenS]
 refine wpS_of_wp ?_
 refine wp_act (a' := ⟨#[.pointer (some ⟨bn, 0, none⟩), .pointer (some ⟨ba, 0, none⟩), .pointer (some ⟨be, 0, none⟩), undef, undef, undef, .iface 64 (.agg #[.int .i64 p, .int .i64 c]), undef, undef, undef, undef, undef, undef, undef, undef, undef, undef], []⟩) rfl ?_
 have hta := fq p c
 go_upto_region 7 with (((with_reducible refine gate_dst (N := 4) rfl ?_); refine box_event ?hg (N := 4) ?hd (cs := #[.int .i64 0, .int .i64 0]) (t := 64) ?hr ?_; (case hd => rfl); (case hg => rfl); (case hr => exact p9z); intro q hq w6 hbox hbw; have BK := hid hbox; have HB := hid hbw; have HQ := hid hq; have hcz0 := cell_of (i := 0) hbox rfl; have hcz1 := cell_of (i := 1) hbox rfl; have hfz0 := blk_frozen hbox 0; have hfz1 := blk_frozen hbox 1; clear hbox hbw hq))
 have lN := blk_lt hn
 have lA := blk_lt ha
 have lE := blk_lt he
 have qN : bn ≠ q := by rw [HQ.out]; omega
 have qA : ba ≠ q := by rw [HQ.out]; omega
 have qE : be ≠ q := by rw [HQ.out]; omega
 have hQ : ((w6.setCell ⟨q, 0, none⟩ (.int .i64 p)).setCell ⟨q, 1, none⟩ (.int .i64 c)).heap[q]? = some (.cells #[.int .i64 p, .int .i64 c] 64 (0, 0)) := blk_put (cs := #[.int .i64 p, .int .i64 0]) (blk_put (cs := #[.int .i64 0, .int .i64 0]) BK.out 0 _ rfl) 1 _ rfl
 have hN := blk_far (p := ⟨q, 1, none⟩) (blk_far (p := ⟨q, 0, none⟩) (blk_below hn HB.out) qN (.int .i64 p)) qN (.int .i64 c)
 have hA := blk_far (p := ⟨q, 1, none⟩) (blk_far (p := ⟨q, 0, none⟩) (blk_below ha HB.out) qA (.int .i64 p)) qA (.int .i64 c)
 have hE := blk_far (p := ⟨q, 1, none⟩) (blk_far (p := ⟨q, 0, none⟩) (blk_below he HB.out) qE (.int .i64 p)) qE (.int .i64 c)
 have hW : ∀ w0 : World, Below w0.heap.size w0 w → Below w0.heap.size w0 ((w6.setCell ⟨q, 0, none⟩ (.int .i64 p)).setCell ⟨q, 1, none⟩ (.int .i64 c)) := fun w0 hb => by
  have := hb.size
  exact below_set (below_set (below_step hb HB.out) (by rw [HQ.out]; omega)) (by rw [HQ.out]; omega)
 clear hn ha he BK hcz0 hcz1 hfz0 hfz1
 have HW := hid hW
 clear hW
 revert hQ hN hA hE HW
 generalize World.setCell (World.setCell _ _ _) _ _ = W7
 intro hQ hN hA hE HW
 have hz0 := cell_of (i := 0) hQ rfl
 have hz1 := cell_of (i := 1) hQ rfl
 refine start_ (n := 8) (S := fun w' => w'.cell? ⟨q, 0, none⟩ = some (.int .i64 p) ∧ w'.cell? ⟨q, 1, none⟩ = some (.int .i64 c)) (ds := []) (tf 0 8) p12z rfl rfl ⟨hz0, hz1⟩ (fun hHeld => ?_); refine with_tabW parse1_r7.tab parse1_r7.bits (fun HT_ HW_ => ?_)
 have hQ := blk_drew hQ
 have hN := blk_drew hN
 have hA := blk_drew hA
 have hE := blk_drew hE
 have HW2 := hid (fun (w0 : World) hb => below_drew1 (HW.out w0 hb))
 clear HW hz0 hz1
 revert hQ hN hA hE HW2 hHeld
 generalize W7.drew = W8
 intro hHeld hQ hN hA hE HW
 refine pzz 0 (some 12) (tf 1 7) ?_
 refine pzz 1 (some 13) (tf 2 6) ?_
 refine tzz 2 (some 14) (tf 3 5) ?_
 refine pzz 3 (some 15) (tf 4 4) ?_
 refine tzz 4 (some 16) (tf 5 3) ?_
 obtain ⟨hc0, hc1, hc2, hc3, hf0, hf1, hf2, hf3⟩ := cells4 hN
 refine one_ (i := 5) (N := none) (tf 6 2) rfl rfl (one_of HT_.out p12z) (by decide) (fun K hK => ?_)
 refine skip_ (w1 := ?_) (by rfl) rfl ?_ ?_
 rotate_left
 ·go_simp
  rfl
 clear hc0 hc1 hc2 hc3 hf0 hf1 hf2 hf3 hHeld
 have hQ5 := far4 hQ qN.symm (.int .i64 0) (.string (⟨#[]⟩ : ByteArray)) (.slice none 0 0) (.slice none 0 0)
 have hA5 := far4 hA n1.symm (.int .i64 0) (.string (⟨#[]⟩ : ByteArray)) (.slice none 0 0) (.slice none 0 0)
 have hE5 := far4 hE n2.symm (.int .i64 0) (.string (⟨#[]⟩ : ByteArray)) (.slice none 0 0) (.slice none 0 0)
 have hN5 : ((((W8.setCell ⟨bn, 0, none⟩ (.int .i64 0)).setCell ⟨bn, 1, none⟩ (.string (⟨#[]⟩ : ByteArray))).setCell ⟨bn, 2, none⟩ (.slice none 0 0)).setCell ⟨bn, 3, none⟩ (.slice none 0 0)).heap[bn]? = some (.cells zcells 28 (0, 0)) :=
  blk_put (cs := #[.int .i64 0, .string ⟨#[]⟩, .slice none 0 0, u3]) (blk_put (cs := #[.int .i64 0, .string ⟨#[]⟩, u2, u3]) (blk_put (cs := #[.int .i64 0, u1, u2, u3]) (blk_put (cs := #[u0, u1, u2, u3]) hN 0 _ rfl) 1 _ rfl) 2 _ rfl) 3 _ rfl
 have HW5 := hid (fun (w0 : World) hb (h : w0.heap.size ≤ bn) => below4 (HW.out w0 hb) h (.int .i64 0) (.string (⟨#[]⟩ : ByteArray)) (.slice none 0 0) (.slice none 0 0))
 clear hQ hA hE hN HW
 revert hQ5 hA5 hE5 hN5 HW5
 generalize World.setCell (World.setCell _ _ _) _ _ = W9
 intro hQ hA hE hN HW
 refine hK.out _ _ ⟨cell_of (i := 0) hQ rfl, cell_of (i := 1) hQ rfl⟩ (fun hHeld => ?_)
 have hc0 := cell_of (i := 0) hA rfl
 have hf0 := blk_frozen hA 0
 refine one_ (i := 6) (N := none) (tf 7 1) rfl rfl (one_of HT_.out p12z) (by decide) (fun K hK => ?_)
 refine skip_ (w1 := ?_) (by rfl) rfl ?_ ?_
 rotate_left
 ·go_simp
  rfl
 clear hc0 hf0 hHeld
 have hQ6 := blk_far (p := ⟨ba, 0, none⟩) hQ qA.symm (.int .i64 p)
 have hN6 := blk_far (p := ⟨ba, 0, none⟩) hN n1 (.int .i64 p)
 have hE6 := blk_far (p := ⟨ba, 0, none⟩) hE n3.symm (.int .i64 p)
 have hA6 := blk_put (cs' := #[.int .i64 p]) hA 0 (.int .i64 p) rfl
 have HW6 := hid (fun (w0 : World) hb (h : w0.heap.size ≤ bn) (h2 : w0.heap.size ≤ ba) => below_set (j := 0) (v := .int .i64 p) (HW.out w0 hb h) h2)
 clear hQ hA hE hN HW
 revert hQ6 hA6 hE6 hN6 HW6
 generalize World.setCell _ _ _ = W10
 intro hQ hN hE hA HW
 refine hK.out _ _ ⟨cell_of (i := 0) hQ rfl, cell_of (i := 1) hQ rfl⟩ (fun hHeld => ?_)
 have hc0 := cell_of (i := 0) hE rfl
 have hf0 := blk_frozen hE 0
 refine one_ (i := 7) (N := none) (tf 8 0) rfl rfl (one_of HT_.out p12z) (by decide) (fun K hK => ?_)
 refine skip_ (w1 := ?_) (by rfl) rfl ?_ ?_
 rotate_left
 ·go_simp
  rfl
 have hQ7 := blk_far (p := ⟨be, 0, none⟩) hQ qE.symm (.int .i64 c)
 have hN7 := blk_far (p := ⟨be, 0, none⟩) hN n2 (.int .i64 c)
 have hA7 := blk_far (p := ⟨be, 0, none⟩) hA n3 (.int .i64 c)
 have hE7 := blk_put (cs' := #[.int .i64 c]) hE 0 (.int .i64 c) rfl
 refine hK.out _ _ ⟨cell_of (i := 0) hQ7 rfl, cell_of (i := 1) hQ7 rfl⟩ (fun hHeld => ?_)
 refine done_ (done_of HT_.out p12z) ?_
 refine ⟨rfl, _, rfl, _, (by simp [results, Tryz.results28]; rfl), ?_⟩
 exact ⟨rfl, rfl, hN7, hA7, hE7, fun w0 hb h1 h2 h3 => below_set (HW.out w0 hb h1 h2) h3⟩
end Go.Proofs.YtodnggilomanbaaGreatDoor.Hand
