/-
  The reference's node, as a value. (Printed.)
-/
import Derived.Test.YtodnggilomanbaaGreatDoorAp
import Derived.Test.YtodnggilomanbaaGreatDoorPX0
section
-- Written by this repo's program wip/tools/pr.py (over the kit's print) out of the translation. Not trusted: Lean checks it.
set_option maxHeartbeats 8000000
set_option maxRecDepth 100000
namespace Go.Proofs.YtodnggilomanbaaGreatDoor.PAll
open Go.Proofs.YtodnggilomanbaaGreatDoor.Hand
open Go.RowKit Go.Proofs.YtodnggilomanbaaGreatDoorW.PrintWords Go.Proofs.YtodnggilomanbaaGreatDoorW.PrintLast Go.Proofs.YtodnggilomanbaaGreatDoorW.PrintMore
attribute [local go_sem] max2_int min2_int max_two min_two max_three min_three max_four min_four   -- for this text's walks alone
set_option linter.unusedVariables false
set_option linter.unusedSimpArgs false
attribute [-simp] List.length_take List.length_drop ByteArray.size_extract

/-- A state of type 95 at block g of W; what its slices lead to came in by w0. -/
def IsS95 (w0 W : World) (g : Nat) (f0 : ByteArray) (f1 : Int) (f2 : Int) (f3 : Int) (f4 : Int) : Prop := W.heap[g]? = some (.cells #[.string f0, .int .i64 f1, .int .i64 f2, .int .i64 f3, .int .i64 f4] 95 (0, 0)) ∧ w0.heap.size ≤ g
theorem IsS95.grown {w0 W : World} {g : Nat} {f0 : ByteArray} {f1 : Int} {f2 : Int} {f3 : Int} {f4 : Int} {W1 : World} {row : Option Nat} (h : IsS95 w0 W g f0 f1 f2 f3 f4) (hw : W.grownBy W1 row) (hne : some g ≠ row) : IsS95 w0 W1 g f0 f1 f2 f3 f4 := by
  obtain ⟨hb, hg⟩ := h
  exact ⟨blk_grown hb hw hne, hg⟩
theorem IsS95.own_neN {w0 W : World} {g : Nat} {f0 : ByteArray} {f1 : Int} {f2 : Int} {f3 : Int} {f4 : Int} {α : Type} {d : Kd α} {e : Nat} {base : Nat} {ok : Nat → Prop} {v : Value} {xs : List α} (h : IsS95 w0 W g f0 f1 f2 f3 f4) (ho : Kd.N d e W base ok v xs) (ht : e ≠ 95) : some g ≠ v.ownBlock := by
  obtain ⟨hb, hg⟩ := h
  exact Kd.N_ne ho hb ht
theorem IsS95.fresh {w0 W : World} {g : Nat} {f0 : ByteArray} {f1 : Int} {f2 : Int} {f3 : Int} {f4 : Int} (h : IsS95 w0 W g f0 f1 f2 f3 f4) : ∀ k, W.heap.size ≤ k → k ≠ g := by
  obtain ⟨hb, hg⟩ := h
  exact Kd.freshB hb
theorem IsS95.kept {w0 W : World} {g : Nat} {f0 : ByteArray} {f1 : Int} {f2 : Int} {f3 : Int} {f4 : Int} {W1 : World} {S : Nat → Prop} (h : IsS95 w0 W g f0 f1 f2 f3 f4) (hk : Kept W W1 S) (hne : ¬ S g) : IsS95 w0 W1 g f0 f1 f2 f3 f4 := by
  obtain ⟨hb, hg⟩ := h
  exact ⟨blk_kept hb hk hne, hg⟩
theorem IsS95.below {w0 W : World} {g : Nat} {f0 : ByteArray} {f1 : Int} {f2 : Int} {f3 : Int} {f4 : Int} {W1 : World} (h : IsS95 w0 W g f0 f1 f2 f3 f4) (hw : Below W.heap.size W W1) : IsS95 w0 W1 g f0 f1 f2 f3 f4 := h.grown (grown_of_below hw none) (by simp)
theorem IsS95.alloc {w0 W : World} {g : Nat} {f0 : ByteArray} {f1 : Int} {f2 : Int} {f3 : Int} {f4 : Int} (h : IsS95 w0 W g f0 f1 f2 f3 f4) (o : Obj) : IsS95 w0 (W.alloc o) g f0 f1 f2 f3 f4 := h.below (below_alloc (Below.refl _ _) o)
theorem IsS95.drewN {w0 W : World} {g : Nat} {f0 : ByteArray} {f1 : Int} {f2 : Int} {f3 : Int} {f4 : Int} (h : IsS95 w0 W g f0 f1 f2 f3 f4) (m : Nat) : IsS95 w0 (W.drewN m) g f0 f1 f2 f3 f4 := h
theorem IsS95.drew {w0 W : World} {g : Nat} {f0 : ByteArray} {f1 : Int} {f2 : Int} {f3 : Int} {f4 : Int} (h : IsS95 w0 W g f0 f1 f2 f3 f4) : IsS95 w0 W.drew g f0 f1 f2 f3 f4 := h
theorem IsS95.at_ {w0 W : World} {g : Nat} {f0 : ByteArray} {f1 : Int} {f2 : Int} {f3 : Int} {f4 : Int} {w' : World} {m : Nat} (hq : W.drewN m = w') (h : IsS95 w0 W g f0 f1 f2 f3 f4) : IsS95 w0 w' g f0 f1 f2 f3 f4 := by subst hq; exact IsS95.drewN h m
theorem IsS95.apart {w0 W : World} {g : Nat} {f0 : ByteArray} {f1 : Int} {f2 : Int} {f3 : Int} {f4 : Int} {α : Type} {d : Kd α} {e : Nat} {base : Nat} {ok : Nat → Prop} {v : Value} {xs : List α} (h : IsS95 w0 W g f0 f1 f2 f3 f4) (ho : d.R e W base ok v xs) (ht : ∀ q, q ∈ e :: d.E → q ≠ 95) : d.R e W base (fun k => ok k ∧ k ≠ g) v xs := by
  obtain ⟨hb, hg⟩ := h
  exact Kd.R_types ho hb ht
theorem IsS95.own_ne {w0 W : World} {g : Nat} {f0 : ByteArray} {f1 : Int} {f2 : Int} {f3 : Int} {f4 : Int} {α : Type} {d : Kd α} {e : Nat} {base : Nat} {ok : Nat → Prop} {v : Value} {xs : List α} (h : IsS95 w0 W g f0 f1 f2 f3 f4) (ho : d.R e W base ok v xs) (ht : e ≠ 95) : some g ≠ v.ownBlock := by
  obtain ⟨hb, hg⟩ := h
  exact Kd.R_ne ho hb ht
theorem IsS95.apartQ {w0 W : World} {g : Nat} {f0 : ByteArray} {f1 : Int} {f2 : Int} {f3 : Int} {f4 : Int} {α : Type} {d : Kd α} {e : Nat} {base : Nat} {ok : Nat → Prop} {v : Value} {xs : List α} (h : IsS95 w0 W g f0 f1 f2 f3 f4) (ho : d.Q e W base ok v xs) (ht : ∀ q, q ∈ e :: d.E → q ≠ 95) : d.Q e W base (fun k => ok k ∧ k ≠ g) v xs := by
  obtain ⟨hb, hg⟩ := h
  exact Kd.Q_types ho hb ht
theorem IsS95.own_neQ {w0 W : World} {g : Nat} {f0 : ByteArray} {f1 : Int} {f2 : Int} {f3 : Int} {f4 : Int} {α : Type} {d : Kd α} {e : Nat} {base : Nat} {ok : Nat → Prop} {v : Value} {xs : List α} (h : IsS95 w0 W g f0 f1 f2 f3 f4) (ho : d.Q e W base ok v xs) (ht : e ≠ 95) : some g ≠ v.ownBlock := by
  obtain ⟨hb, hg⟩ := h
  exact Kd.Q_ne ho hb ht
theorem IsS95.apartS {w0 W : World} {g : Nat} {f0 : ByteArray} {f1 : Int} {f2 : Int} {f3 : Int} {f4 : Int} {α : Type} {d : Kd α} {e : Nat} {base : Nat} {ok : Nat → Prop} {v : Value} {xs : List α} (h : IsS95 w0 W g f0 f1 f2 f3 f4) (ho : d.S e W base ok v xs) (ht : ∀ q, q ∈ e :: d.E → q ≠ 95) : d.S e W base (fun k => ok k ∧ k ≠ g) v xs := by
  obtain ⟨hb, hg⟩ := h
  exact Kd.S_types ho hb ht
theorem IsS95.own_neS {w0 W : World} {g : Nat} {f0 : ByteArray} {f1 : Int} {f2 : Int} {f3 : Int} {f4 : Int} {α : Type} {d : Kd α} {e : Nat} {base : Nat} {ok : Nat → Prop} {v : Value} {xs : List α} (h : IsS95 w0 W g f0 f1 f2 f3 f4) (ho : d.S e W base ok v xs) (ht : e ≠ 95) : some g ≠ v.ownBlock := by
  obtain ⟨hb, hg⟩ := h
  exact Kd.S_ne ho hb ht
theorem IsS95.lt {w0 W : World} {g : Nat} {f0 : ByteArray} {f1 : Int} {f2 : Int} {f3 : Int} {f4 : Int} (h : IsS95 w0 W g f0 f1 f2 f3 f4) : g < W.heap.size := by
  obtain ⟨hb, hg⟩ := h
  exact blk_lt hb
theorem IsS95.ge {w0 W : World} {g : Nat} {f0 : ByteArray} {f1 : Int} {f2 : Int} {f3 : Int} {f4 : Int} (h : IsS95 w0 W g f0 f1 f2 f3 f4) : w0.heap.size ≤ g := by
  obtain ⟨hb, hg⟩ := h
  exact hg
theorem IsS95.ne_blk {w0 W : World} {g : Nat} {f0 : ByteArray} {f1 : Int} {f2 : Int} {f3 : Int} {f4 : Int} {a : Nat} {cs : Array Value} {t : TypeId} {fr : Nat × Nat} (h : IsS95 w0 W g f0 f1 f2 f3 f4) (hb2 : W.heap[a]? = some (.cells cs t fr)) (ht : t ≠ 95) : g ≠ a := by
  obtain ⟨hb, hg⟩ := h
  rintro rfl
  rw [hb] at hb2
  injection hb2 with hb2
  injection hb2 with _ ht2
  exact ht ht2.symm
theorem IsS95.far {w0 W : World} {g : Nat} {f0 : ByteArray} {f1 : Int} {f2 : Int} {f3 : Int} {f4 : Int} {p : Addr} (h : IsS95 w0 W g f0 f1 f2 f3 f4) (hne : g ≠ p.block) (u : Value) : IsS95 w0 (W.setCell p u) g f0 f1 f2 f3 f4 := by
  obtain ⟨hb, hg⟩ := h
  exact ⟨blk_far hb hne u, hg⟩
theorem cellS95_0 {W : World} {g : Nat} {f0 : ByteArray} {f1 : Int} {f2 : Int} {f3 : Int} {f4 : Int} (h : W.heap[g]? = some (.cells #[.string f0, .int .i64 f1, .int .i64 f2, .int .i64 f3, .int .i64 f4] 95 (0, 0))) : W.cell? ⟨g, 0, none⟩ = some (.string f0) := (blk_cell h 0).trans rfl
theorem IsS95.set_0 {w0 W : World} {g : Nat} {f0 : ByteArray} {f1 : Int} {f2 : Int} {f3 : Int} {f4 : Int} (h : IsS95 w0 W g f0 f1 f2 f3 f4) (x : ByteArray) : IsS95 w0 (W.setCell ⟨g, 0, none⟩ (.string x)) g x f1 f2 f3 f4 := by
  obtain ⟨hb, hg⟩ := h
  exact ⟨by simpa using blk_set hb 0 (.string x), hg⟩
theorem cellS95_1 {W : World} {g : Nat} {f0 : ByteArray} {f1 : Int} {f2 : Int} {f3 : Int} {f4 : Int} (h : W.heap[g]? = some (.cells #[.string f0, .int .i64 f1, .int .i64 f2, .int .i64 f3, .int .i64 f4] 95 (0, 0))) : W.cell? ⟨g, 1, none⟩ = some (.int .i64 f1) := (blk_cell h 1).trans rfl
theorem IsS95.set_1 {w0 W : World} {g : Nat} {f0 : ByteArray} {f1 : Int} {f2 : Int} {f3 : Int} {f4 : Int} (h : IsS95 w0 W g f0 f1 f2 f3 f4) (x : Int) : IsS95 w0 (W.setCell ⟨g, 1, none⟩ (.int .i64 x)) g f0 x f2 f3 f4 := by
  obtain ⟨hb, hg⟩ := h
  exact ⟨by simpa using blk_set hb 1 (.int .i64 x), hg⟩
theorem cellS95_2 {W : World} {g : Nat} {f0 : ByteArray} {f1 : Int} {f2 : Int} {f3 : Int} {f4 : Int} (h : W.heap[g]? = some (.cells #[.string f0, .int .i64 f1, .int .i64 f2, .int .i64 f3, .int .i64 f4] 95 (0, 0))) : W.cell? ⟨g, 2, none⟩ = some (.int .i64 f2) := (blk_cell h 2).trans rfl
theorem IsS95.set_2 {w0 W : World} {g : Nat} {f0 : ByteArray} {f1 : Int} {f2 : Int} {f3 : Int} {f4 : Int} (h : IsS95 w0 W g f0 f1 f2 f3 f4) (x : Int) : IsS95 w0 (W.setCell ⟨g, 2, none⟩ (.int .i64 x)) g f0 f1 x f3 f4 := by
  obtain ⟨hb, hg⟩ := h
  exact ⟨by simpa using blk_set hb 2 (.int .i64 x), hg⟩
theorem cellS95_3 {W : World} {g : Nat} {f0 : ByteArray} {f1 : Int} {f2 : Int} {f3 : Int} {f4 : Int} (h : W.heap[g]? = some (.cells #[.string f0, .int .i64 f1, .int .i64 f2, .int .i64 f3, .int .i64 f4] 95 (0, 0))) : W.cell? ⟨g, 3, none⟩ = some (.int .i64 f3) := (blk_cell h 3).trans rfl
theorem IsS95.set_3 {w0 W : World} {g : Nat} {f0 : ByteArray} {f1 : Int} {f2 : Int} {f3 : Int} {f4 : Int} (h : IsS95 w0 W g f0 f1 f2 f3 f4) (x : Int) : IsS95 w0 (W.setCell ⟨g, 3, none⟩ (.int .i64 x)) g f0 f1 f2 x f4 := by
  obtain ⟨hb, hg⟩ := h
  exact ⟨by simpa using blk_set hb 3 (.int .i64 x), hg⟩
theorem cellS95_4 {W : World} {g : Nat} {f0 : ByteArray} {f1 : Int} {f2 : Int} {f3 : Int} {f4 : Int} (h : W.heap[g]? = some (.cells #[.string f0, .int .i64 f1, .int .i64 f2, .int .i64 f3, .int .i64 f4] 95 (0, 0))) : W.cell? ⟨g, 4, none⟩ = some (.int .i64 f4) := (blk_cell h 4).trans rfl
theorem IsS95.set_4 {w0 W : World} {g : Nat} {f0 : ByteArray} {f1 : Int} {f2 : Int} {f3 : Int} {f4 : Int} (h : IsS95 w0 W g f0 f1 f2 f3 f4) (x : Int) : IsS95 w0 (W.setCell ⟨g, 4, none⟩ (.int .i64 x)) g f0 f1 f2 f3 x := by
  obtain ⟨hb, hg⟩ := h
  exact ⟨by simpa using blk_set hb 4 (.int .i64 x), hg⟩
theorem IsS95.new (w0 W : World) (f0 : ByteArray) (f1 : Int) (f2 : Int) (f3 : Int) (f4 : Int) (hB : Below w0.heap.size w0 W) : IsS95 w0 (W.alloc (.cells #[.string f0, .int .i64 f1, .int .i64 f2, .int .i64 f3, .int .i64 f4] 95)) W.heap.size f0 f1 f2 f3 f4 := ⟨by simpa using heap_alloc_new W _, hB.size⟩
/-! ### signetryref14_Reader_blanks: function 51 -/
def signetryref14_Reader_blanks.l0 : Nat → ByteArray → Int → Int → Int → Int → Option (ByteArray × Int × Int × Int × Int)
  | 0, _, _, _, _, _ => none
  | k + 1, ao, ap, aU, aV, aQ => if ap < (ao.size : Int) then (if 0 ≤ ap then (if (bt ao ap) = 32 then (signetryref14_Reader_blanks.l0 k ao (wrap64 (ap + 1)) aU aV aQ) else (if (bt ao ap) = 9 then (signetryref14_Reader_blanks.l0 k ao (wrap64 (ap + 1)) aU aV aQ) else (if (bt ao ap) = 10 then (signetryref14_Reader_blanks.l0 k ao (wrap64 (ap + 1)) aU aV aQ) else (if (bt ao ap) = 13 then (signetryref14_Reader_blanks.l0 k ao (wrap64 (ap + 1)) aU aV aQ) else (some (ao, ap, aU, aV, aQ)))))) else (none)) else (some (ao, ap, aU, aV, aQ))
def signetryref14_Reader_blanks.f (k : Nat) (ag : ByteArray) (ae : Int) (aT : Int) (aX : Int) (aK : Int) : Option (ByteArray × Int × Int × Int × Int) := signetryref14_Reader_blanks.l0 k ag ae aT aX aK
theorem signetryref14_Reader_blanks.mono_l : ∀ k, (∀ y0 y1 y2 y3 y4, LeO (signetryref14_Reader_blanks.l0 k y0 y1 y2 y3 y4) (signetryref14_Reader_blanks.l0 (k + 1) y0 y1 y2 y3 y4))
 | 0 => fun _ _ _ _ _ r h => by simp [signetryref14_Reader_blanks.l0] at h
 | k + 1 => by
  have ih0 := signetryref14_Reader_blanks.mono_l k
  ·intro y0 y1 y2 y3 y4
   unfold signetryref14_Reader_blanks.l0
   exact moz
theorem signetryref14_Reader_blanks.mono : ∀ a0 a1 a2 a3 a4 k, LeO (signetryref14_Reader_blanks.f k a0 a1 a2 a3 a4) (signetryref14_Reader_blanks.f (k + 1) a0 a1 a2 a3 a4) := by
  intro a0 a1 a2 a3 a4 k
  have ih0 := signetryref14_Reader_blanks.mono_l k
  unfold signetryref14_Reader_blanks.f
  exact moz
theorem signetryref14_Reader_blanks.calls (k : Nat) (g : Nat) (ag : ByteArray) (ae : Int) (aT : Int) (aX : Int) (aK : Int) (r1 : ByteArray) (r2 : Int) (r3 : Int) (r4 : Int) (r5 : Int) (w0 w : World) (hI : IsS95 w0 w g ag ae aT aX aK) (hB : Below w0.heap.size w0 w) (h : signetryref14_Reader_blanks.f k ag ae aT aX aK = some (r1, r2, r3, r4, r5)) :
 Calls Tryz.prog 51 #[.pointer (some ⟨g, 0, none⟩)] w fun e w' => e = .returned (.tuple #[]) ∧ IsS95 w0 w' g r1 r2 r3 r4 r5 ∧ Below w0.heap.size w0 w' ∧ KeepBut w w' g none := by
 have HI0 := Aside0.mk hI
 have HK := Aside0.mk (KeepBut.refl w g none)
 have HL := Aside0.mk hB.size
 clear hI
 have HW0 := Aside0.mk hB.size
 have HB := Aside0.mk hB
 clear hB
 have H : (signetryref14_Reader_blanks.l0 k ag ae aT aX aK) = some (r1, r2, r3, r4, r5) := h
 clear h
 have H' := Aside0.mk H
 clear H
 go_enter Tryz.func51, Tryz.ntmps51
 go_wp2
 repeat (go_quiet (fail); try go_wp2)
 go_loopg [] k (fun kq w' => ∃ (aa : Int), Aside0 (signetryref14_Reader_blanks.l0 kq ag aa aT aX aK = some (r1, r2, r3, r4, r5)) ∧ Aside0 (kq ≤ k) ∧ Aside0 (IsS95 w0 w' g ag aa aT aX aK) ∧ Aside0 (KeepBut w w' g none) ∧ Aside0 (Below w0.heap.size w0 w'))
 case atStart => exact ⟨(ae), H', ⟨Nat.le_refl _⟩, ⟨p1z⟩, ⟨p3z⟩, ⟨p2z⟩⟩
 case round =>
  clear H'
  obtain ⟨aa, HA, HK1, HI0, HK, HB⟩ := hrel
  cases gk with
  | zero => exact absurd HA.out (by simp [signetryref14_Reader_blanks.l0])
  | succ k1 =>
   have H := HA.out
   clear HA
   simp only [signetryref14_Reader_blanks.l0] at H
   by_cases c2 : aa < (ag.size : Int)
   case neg =>
    rw [if_neg c2] at H
    have dw : decide (aa < (ag.size : Int)) = false := decide_eq_false c2
    clear c2
    simp only [Option.some.injEq, Prod.mk.injEq] at H
    obtain ⟨rfl, rfl, rfl, rfl, rfl⟩ := H
    obtain ⟨HGz17, hgz17⟩ := HI0.out
    have hcz17_0 := cellS95_0 HGz17
    have hcz17_1 := cellS95_1 HGz17
    have hcz17_2 := cellS95_2 HGz17
    have hcz17_3 := cellS95_3 HGz17
    have hcz17_4 := cellS95_4 HGz17
    have hfz17_0 := blk_frozen HGz17 0
    have hfz17_1 := blk_frozen HGz17 1
    have hfz17_2 := blk_frozen HGz17 2
    have hfz17_3 := blk_frozen HGz17 3
    have hfz17_4 := blk_frozen HGz17 4
    clear HGz17 hgz17
    go_wp2
    repeat (go_quiet (fail); try go_wp2)
    first | go_end0 | ((try simp only [Exit.inBlock, Exit.then]); refine bodyPost_ret (results_none rfl _ _ _) rfl ?_)
    exact ⟨p6z, p1z, p2z, p3z⟩

   rw [if_pos c2] at H
   have dw : decide (aa < (ag.size : Int)) = true := decide_eq_true c2
   clear c2
   by_cases c3 : 0 ≤ aa
   case neg =>
    rw [if_neg c3] at H
    exact absurd H (by simp)
   rw [if_pos c3] at H
   have bQ : decide (0 ≤ aa) = true := decide_eq_true c3
   clear c3
   by_cases c5 : (bt ag aa) = 32
   case pos =>
    rw [if_pos c5] at H
    have cH : ((bt ag aa) == 32) = true := beq_iff_eq.mpr c5
    have c5b1 : ((bt ag aa) != 32) = false := bne_eq_false_iff_eq.mpr c5
    clear c5
    have H' := Aside0.mk H
    clear H
    obtain ⟨HGz6, hgz6⟩ := HI0.out
    have hcz6_0 := cellS95_0 HGz6
    have hcz6_1 := cellS95_1 HGz6
    have hcz6_2 := cellS95_2 HGz6
    have hcz6_3 := cellS95_3 HGz6
    have hcz6_4 := cellS95_4 HGz6
    have hfz6_0 := blk_frozen HGz6 0
    have hfz6_1 := blk_frozen HGz6 1
    have hfz6_2 := blk_frozen HGz6 2
    have hfz6_3 := blk_frozen HGz6 3
    have hfz6_4 := blk_frozen HGz6 4
    clear HGz6 hgz6
    have p4 : 0 ≤ (aa : Int) := of_decide_eq_true p4z
    have q4 : aa < (ag.size : Int) := of_decide_eq_true p4z
    have hx4 := bt_at ag aa
    replace p4 := eq_true p4
    replace q4 := eq_true q4
    go_wp2
    repeat (go_quiet (fail); try go_wp2)
    go_roundg k1
    case measure => have := HK1.out; omega
    case rel => exact ⟨(wrap64 (aa + 1)), H', ⟨p61z⟩, ⟨p1z⟩, ⟨p3z⟩, ⟨p2z⟩⟩
   rw [if_neg c5] at H
   have cH : ((bt ag aa) == 32) = false := beq_eq_false_iff_ne.mpr c5
   have c5b1 : ((bt ag aa) != 32) = true := bne_iff_ne.mpr c5
   by_cases c8 : (bt ag aa) = 9
   case pos =>
    rw [if_pos c8] at H
    have dx : ((bt ag aa) == 9) = true := beq_iff_eq.mpr c8
    have fD : ((bt ag aa) != 9) = false := bne_eq_false_iff_eq.mpr c8
    clear c8
    have H' := Aside0.mk H
    clear H
    obtain ⟨HGz9, hgz9⟩ := HI0.out
    have hcz9_0 := cellS95_0 HGz9
    have hcz9_1 := cellS95_1 HGz9
    have hcz9_2 := cellS95_2 HGz9
    have hcz9_3 := cellS95_3 HGz9
    have hcz9_4 := cellS95_4 HGz9
    have hfz9_0 := blk_frozen HGz9 0
    have hfz9_1 := blk_frozen HGz9 1
    have hfz9_2 := blk_frozen HGz9 2
    have hfz9_3 := blk_frozen HGz9 3
    have hfz9_4 := blk_frozen HGz9 4
    clear HGz9 hgz9
    have p4 : 0 ≤ (aa : Int) := of_decide_eq_true p4z
    have q4 : aa < (ag.size : Int) := of_decide_eq_true p4z
    have hx4 := bt_at ag aa
    replace p4 := eq_true p4
    replace q4 := eq_true q4
    have p7 : 0 ≤ (aa : Int) := of_decide_eq_true p4z
    have q7 : aa < (ag.size : Int) := of_decide_eq_true p4z
    have hx7 := bt_at ag aa
    replace p7 := eq_true p7
    replace q7 := eq_true q7
    go_wp2
    repeat (go_quiet (fail); try go_wp2)
    go_roundg k1
    case measure => have := HK1.out; omega
    case rel => exact ⟨(wrap64 (aa + 1)), H', ⟨p61z⟩, ⟨p1z⟩, ⟨p3z⟩, ⟨p2z⟩⟩
   rw [if_neg c8] at H
   have dx : ((bt ag aa) == 9) = false := beq_eq_false_iff_ne.mpr c8
   have fD : ((bt ag aa) != 9) = true := bne_iff_ne.mpr c8
   by_cases c11 : (bt ag aa) = 10
   case pos =>
    rw [if_pos c11] at H
    have cR : ((bt ag aa) == 10) = true := beq_iff_eq.mpr c11
    have c11b1 : ((bt ag aa) != 10) = false := bne_eq_false_iff_eq.mpr c11
    clear c11
    have H' := Aside0.mk H
    clear H
    obtain ⟨HGz12, hgz12⟩ := HI0.out
    have hcz12_0 := cellS95_0 HGz12
    have hcz12_1 := cellS95_1 HGz12
    have hcz12_2 := cellS95_2 HGz12
    have hcz12_3 := cellS95_3 HGz12
    have hcz12_4 := cellS95_4 HGz12
    have hfz12_0 := blk_frozen HGz12 0
    have hfz12_1 := blk_frozen HGz12 1
    have hfz12_2 := blk_frozen HGz12 2
    have hfz12_3 := blk_frozen HGz12 3
    have hfz12_4 := blk_frozen HGz12 4
    clear HGz12 hgz12
    have p4 : 0 ≤ (aa : Int) := of_decide_eq_true p4z
    have q4 : aa < (ag.size : Int) := of_decide_eq_true p4z
    have hx4 := bt_at ag aa
    replace p4 := eq_true p4
    replace q4 := eq_true q4
    have p7 : 0 ≤ (aa : Int) := of_decide_eq_true p4z
    have q7 : aa < (ag.size : Int) := of_decide_eq_true p4z
    have hx7 := bt_at ag aa
    replace p7 := eq_true p7
    replace q7 := eq_true q7
    have p10 : 0 ≤ (aa : Int) := of_decide_eq_true p4z
    have q10 : aa < (ag.size : Int) := of_decide_eq_true p4z
    have hx10 := bt_at ag aa
    replace p10 := eq_true p10
    replace q10 := eq_true q10
    go_wp2
    repeat (go_quiet (fail); try go_wp2)
    go_roundg k1
    case measure => have := HK1.out; omega
    case rel => exact ⟨(wrap64 (aa + 1)), H', ⟨p61z⟩, ⟨p1z⟩, ⟨p3z⟩, ⟨p2z⟩⟩
   rw [if_neg c11] at H
   have cR : ((bt ag aa) == 10) = false := beq_eq_false_iff_ne.mpr c11
   have c11b1 : ((bt ag aa) != 10) = true := bne_iff_ne.mpr c11
   by_cases c14 : (bt ag aa) = 13
   case pos =>
    rw [if_pos c14] at H
    have dV : ((bt ag aa) == 13) = true := beq_iff_eq.mpr c14
    have c14b1 : ((bt ag aa) != 13) = false := bne_eq_false_iff_eq.mpr c14
    clear c14
    have H' := Aside0.mk H
    clear H
    obtain ⟨HGz15, hgz15⟩ := HI0.out
    have hcz15_0 := cellS95_0 HGz15
    have hcz15_1 := cellS95_1 HGz15
    have hcz15_2 := cellS95_2 HGz15
    have hcz15_3 := cellS95_3 HGz15
    have hcz15_4 := cellS95_4 HGz15
    have hfz15_0 := blk_frozen HGz15 0
    have hfz15_1 := blk_frozen HGz15 1
    have hfz15_2 := blk_frozen HGz15 2
    have hfz15_3 := blk_frozen HGz15 3
    have hfz15_4 := blk_frozen HGz15 4
    clear HGz15 hgz15
    have p4 : 0 ≤ (aa : Int) := of_decide_eq_true p4z
    have q4 : aa < (ag.size : Int) := of_decide_eq_true p4z
    have hx4 := bt_at ag aa
    replace p4 := eq_true p4
    replace q4 := eq_true q4
    have p7 : 0 ≤ (aa : Int) := of_decide_eq_true p4z
    have q7 : aa < (ag.size : Int) := of_decide_eq_true p4z
    have hx7 := bt_at ag aa
    replace p7 := eq_true p7
    replace q7 := eq_true q7
    have p10 : 0 ≤ (aa : Int) := of_decide_eq_true p4z
    have q10 : aa < (ag.size : Int) := of_decide_eq_true p4z
    have hx10 := bt_at ag aa
    replace p10 := eq_true p10
    replace q10 := eq_true q10
    have p13 : 0 ≤ (aa : Int) := of_decide_eq_true p4z
    have q13 : aa < (ag.size : Int) := of_decide_eq_true p4z
    have hx13 := bt_at ag aa
    replace p13 := eq_true p13
    replace q13 := eq_true q13
    go_wp2
    repeat (go_quiet (fail); try go_wp2)
    go_roundg k1
    case measure => have := HK1.out; omega
    case rel => exact ⟨(wrap64 (aa + 1)), H', ⟨p61z⟩, ⟨p1z⟩, ⟨p3z⟩, ⟨p2z⟩⟩
   rw [if_neg c14] at H
   have dV : ((bt ag aa) == 13) = false := beq_eq_false_iff_ne.mpr c14
   have c14b1 : ((bt ag aa) != 13) = true := bne_iff_ne.mpr c14
   simp only [Option.some.injEq, Prod.mk.injEq] at H
   obtain ⟨rfl, rfl, rfl, rfl, rfl⟩ := H
   obtain ⟨HGz16, hgz16⟩ := HI0.out
   have hcz16_0 := cellS95_0 HGz16
   have hcz16_1 := cellS95_1 HGz16
   have hcz16_2 := cellS95_2 HGz16
   have hcz16_3 := cellS95_3 HGz16
   have hcz16_4 := cellS95_4 HGz16
   have hfz16_0 := blk_frozen HGz16 0
   have hfz16_1 := blk_frozen HGz16 1
   have hfz16_2 := blk_frozen HGz16 2
   have hfz16_3 := blk_frozen HGz16 3
   have hfz16_4 := blk_frozen HGz16 4
   clear HGz16 hgz16
   have p4 : 0 ≤ (aa : Int) := of_decide_eq_true p4z
   have q4 : aa < (ag.size : Int) := of_decide_eq_true p4z
   have hx4 := bt_at ag aa
   replace p4 := eq_true p4
   replace q4 := eq_true q4
   have p7 : 0 ≤ (aa : Int) := of_decide_eq_true p4z
   have q7 : aa < (ag.size : Int) := of_decide_eq_true p4z
   have hx7 := bt_at ag aa
   replace p7 := eq_true p7
   replace q7 := eq_true q7
   have p10 : 0 ≤ (aa : Int) := of_decide_eq_true p4z
   have q10 : aa < (ag.size : Int) := of_decide_eq_true p4z
   have hx10 := bt_at ag aa
   replace p10 := eq_true p10
   replace q10 := eq_true q10
   have p13 : 0 ≤ (aa : Int) := of_decide_eq_true p4z
   have q13 : aa < (ag.size : Int) := of_decide_eq_true p4z
   have hx13 := bt_at ag aa
   replace p13 := eq_true p13
   replace q13 := eq_true q13
   go_wp2
   repeat (go_quiet (fail); try go_wp2)
   first | go_end0 | ((try simp only [Exit.inBlock, Exit.then]); refine bodyPost_ret (results_none rfl _ _ _) rfl ?_)
   exact ⟨p6z, p1z, p2z, p3z⟩
/-! ### signetryref14_Reader_fail: function 52 -/
def signetryref14_Reader_fail.f (ag : ByteArray) (ae : Int) (aT : Int) (aX : Int) (aK : Int) (a1 : Int) (a2 : Int) : Option (ByteArray × Int × Int × Int × Int) := if aK = 0 then (some (ag, ae, aT, a1, a2)) else (some (ag, ae, aT, aX, aK))
theorem signetryref14_Reader_fail.calls (g : Nat) (ag : ByteArray) (ae : Int) (aT : Int) (aX : Int) (aK : Int) (a1 : Int) (a2 : Int) (r1 : ByteArray) (r2 : Int) (r3 : Int) (r4 : Int) (r5 : Int) (w0 w : World) (hI : IsS95 w0 w g ag ae aT aX aK) (hB : Below w0.heap.size w0 w) (h : signetryref14_Reader_fail.f ag ae aT aX aK a1 a2 = some (r1, r2, r3, r4, r5)) :
 Calls Tryz.prog 52 #[.pointer (some ⟨g, 0, none⟩), .int .i64 a1, .int .i64 a2] w fun e w' => e = .returned (.tuple #[]) ∧ IsS95 w0 w' g r1 r2 r3 r4 r5 ∧ Below w0.heap.size w0 w' ∧ KeepBut w w' g none := by
 have HI0 := Aside0.mk hI
 have HK := Aside0.mk (KeepBut.refl w g none)
 have HL := Aside0.mk hB.size
 clear hI
 have HW0 := Aside0.mk hB.size
 have HB := Aside0.mk hB
 clear hB
 have H : (if aK = 0 then (some (ag, ae, aT, a1, a2)) else (some (ag, ae, aT, aX, aK))) = some (r1, r2, r3, r4, r5) := h
 clear h
 by_cases c4 : aK = 0
 case neg =>
  rw [if_neg c4] at H
  have bC : (aK == 0) = false := beq_eq_false_iff_ne.mpr c4
  have fl : (aK != 0) = true := bne_iff_ne.mpr c4
  simp only [Option.some.injEq, Prod.mk.injEq] at H
  obtain ⟨rfl, rfl, rfl, rfl, rfl⟩ := H
  obtain ⟨HGz6, hgz6⟩ := HI0.out
  have hcz6_0 := cellS95_0 HGz6
  have hcz6_1 := cellS95_1 HGz6
  have hcz6_2 := cellS95_2 HGz6
  have hcz6_3 := cellS95_3 HGz6
  have hcz6_4 := cellS95_4 HGz6
  have hfz6_0 := blk_frozen HGz6 0
  have hfz6_1 := blk_frozen HGz6 1
  have hfz6_2 := blk_frozen HGz6 2
  have hfz6_3 := blk_frozen HGz6 3
  have hfz6_4 := blk_frozen HGz6 4
  clear HGz6 hgz6
  go_enter Tryz.func52, Tryz.ntmps52
  go_wp2
  first | go_end0 | ((try simp only [Exit.inBlock, Exit.then]); refine bodyPost_ret (results_none rfl _ _ _) rfl ?_)
  exact ⟨p6z, p1z, p2z, p3z⟩

 rw [if_pos c4] at H
 have bC : (aK == 0) = true := beq_iff_eq.mpr c4
 have fl : (aK != 0) = false := bne_eq_false_iff_eq.mpr c4
 clear c4
 simp only [Option.some.injEq, Prod.mk.injEq] at H
 obtain ⟨rfl, rfl, rfl, rfl, rfl⟩ := H
 obtain ⟨HGz5, hgz5⟩ := HI0.out
 have hcz5_0 := cellS95_0 HGz5
 have hcz5_1 := cellS95_1 HGz5
 have hcz5_2 := cellS95_2 HGz5
 have hcz5_3 := cellS95_3 HGz5
 have hcz5_4 := cellS95_4 HGz5
 have hfz5_0 := blk_frozen HGz5 0
 have hfz5_1 := blk_frozen HGz5 1
 have hfz5_2 := blk_frozen HGz5 2
 have hfz5_3 := blk_frozen HGz5 3
 have hfz5_4 := blk_frozen HGz5 4
 clear HGz5 hgz5
 go_enter Tryz.func52, Tryz.ntmps52
 go_wp2
 first | go_end0 | ((try simp only [Exit.inBlock, Exit.then]); refine bodyPost_ret (results_none rfl _ _ _) rfl ?_)
 exact ⟨p6z, p1z, p2z, p3z⟩
/-! ### signetryref14_Reader_now: function 79 -/
def signetryref14_Reader_now.f (ag : ByteArray) (ae : Int) (aT : Int) (aX : Int) (aK : Int) : Option (Int × ByteArray × Int × Int × Int × Int) := if ae ≥ (ag.size : Int) then (some (0, ag, ae, aT, aX, aK)) else (if aK = 0 then (if 0 ≤ ae then (if ae < (ag.size : Int) then (some (bt ag ae, ag, ae, aT, aX, aK)) else (none)) else (none)) else (some (0, ag, ae, aT, aX, aK)))
theorem signetryref14_Reader_now.calls (g : Nat) (ag : ByteArray) (ae : Int) (aT : Int) (aX : Int) (aK : Int) (r1 : Int) (r2 : ByteArray) (r3 : Int) (r4 : Int) (r5 : Int) (r6 : Int) (w0 w : World) (hI : IsS95 w0 w g ag ae aT aX aK) (hB : Below w0.heap.size w0 w) (h : signetryref14_Reader_now.f ag ae aT aX aK = some (r1, r2, r3, r4, r5, r6)) :
 Calls Tryz.prog 79 #[.pointer (some ⟨g, 0, none⟩)] w fun e w' => e = .returned (.int .u8 r1) ∧ IsS95 w0 w' g r2 r3 r4 r5 r6 ∧ Below w0.heap.size w0 w' ∧ KeepBut w w' g none := by
 have HI0 := Aside0.mk hI
 have HK := Aside0.mk (KeepBut.refl w g none)
 have HL := Aside0.mk hB.size
 clear hI
 have HW0 := Aside0.mk hB.size
 have HB := Aside0.mk hB
 clear hB
 have H : (if ae ≥ (ag.size : Int) then (some (0, ag, ae, aT, aX, aK)) else (if aK = 0 then (if 0 ≤ ae then (if ae < (ag.size : Int) then (some (bt ag ae, ag, ae, aT, aX, aK)) else (none)) else (none)) else (some (0, ag, ae, aT, aX, aK)))) = some (r1, r2, r3, r4, r5, r6) := h
 clear h
 by_cases c2 : ae ≥ (ag.size : Int)
 case pos =>
  rw [if_pos c2] at H
  have dw : decide ((ag.size : Int) ≤ ae) = true := decide_eq_true c2
  clear c2
  simp only [Option.some.injEq, Prod.mk.injEq] at H
  obtain ⟨rfl, rfl, rfl, rfl, rfl, rfl⟩ := H
  obtain ⟨HGz3, hgz3⟩ := HI0.out
  have hcz3_0 := cellS95_0 HGz3
  have hcz3_1 := cellS95_1 HGz3
  have hcz3_2 := cellS95_2 HGz3
  have hcz3_3 := cellS95_3 HGz3
  have hcz3_4 := cellS95_4 HGz3
  have hfz3_0 := blk_frozen HGz3 0
  have hfz3_1 := blk_frozen HGz3 1
  have hfz3_2 := blk_frozen HGz3 2
  have hfz3_3 := blk_frozen HGz3 3
  have hfz3_4 := blk_frozen HGz3 4
  clear HGz3 hgz3
  go_enter Tryz.func79, Tryz.ntmps79
  go_wp2
  repeat (go_quiet (fail); try go_wp2)
  go_ret
  exact ⟨p6z, p1z, p2z, p3z⟩
 rw [if_neg c2] at H
 have dw : decide ((ag.size : Int) ≤ ae) = false := decide_eq_false c2
 clear c2
 by_cases c4 : aK = 0
 case neg =>
  rw [if_neg c4] at H
  have bC : (aK == 0) = false := beq_eq_false_iff_ne.mpr c4
  have fl : (aK != 0) = true := bne_iff_ne.mpr c4
  simp only [Option.some.injEq, Prod.mk.injEq] at H
  obtain ⟨rfl, rfl, rfl, rfl, rfl, rfl⟩ := H
  obtain ⟨HGz9, hgz9⟩ := HI0.out
  have hcz9_0 := cellS95_0 HGz9
  have hcz9_1 := cellS95_1 HGz9
  have hcz9_2 := cellS95_2 HGz9
  have hcz9_3 := cellS95_3 HGz9
  have hcz9_4 := cellS95_4 HGz9
  have hfz9_0 := blk_frozen HGz9 0
  have hfz9_1 := blk_frozen HGz9 1
  have hfz9_2 := blk_frozen HGz9 2
  have hfz9_3 := blk_frozen HGz9 3
  have hfz9_4 := blk_frozen HGz9 4
  clear HGz9 hgz9
  go_enter Tryz.func79, Tryz.ntmps79
  go_wp2
  repeat (go_quiet (fail); try go_wp2)
  go_ret
  exact ⟨p6z, p1z, p2z, p3z⟩
 rw [if_pos c4] at H
 have bC : (aK == 0) = true := beq_iff_eq.mpr c4
 have fl : (aK != 0) = false := bne_eq_false_iff_eq.mpr c4
 clear c4
 by_cases c5 : 0 ≤ ae
 case neg =>
  rw [if_neg c5] at H
  exact absurd H (by simp)
 rw [if_pos c5] at H
 have cH : decide (0 ≤ ae) = true := decide_eq_true c5
 clear c5
 by_cases c6 : ae < (ag.size : Int)
 case neg =>
  rw [if_neg c6] at H
  exact absurd H (by simp)
 rw [if_pos c6] at H
 have cd : decide (ae < (ag.size : Int)) = true := decide_eq_true c6
 clear c6
 simp only [Option.some.injEq, Prod.mk.injEq] at H
 obtain ⟨rfl, rfl, rfl, rfl, rfl, rfl⟩ := H
 obtain ⟨HGz8, hgz8⟩ := HI0.out
 have hcz8_0 := cellS95_0 HGz8
 have hcz8_1 := cellS95_1 HGz8
 have hcz8_2 := cellS95_2 HGz8
 have hcz8_3 := cellS95_3 HGz8
 have hcz8_4 := cellS95_4 HGz8
 have hfz8_0 := blk_frozen HGz8 0
 have hfz8_1 := blk_frozen HGz8 1
 have hfz8_2 := blk_frozen HGz8 2
 have hfz8_3 := blk_frozen HGz8 3
 have hfz8_4 := blk_frozen HGz8 4
 clear HGz8 hgz8
 have p7 : 0 ≤ (ae : Int) := of_decide_eq_true p4z
 have q7 : ae < (ag.size : Int) := of_decide_eq_true p4z
 have hx7 := bt_at ag ae
 replace p7 := eq_true p7
 replace q7 := eq_true q7
 go_enter Tryz.func79, Tryz.ntmps79
 go_wp2
 repeat (go_quiet (fail); try go_wp2)
 go_ret
 exact ⟨p6z, p1z, p2z, p3z⟩
end Go.Proofs.YtodnggilomanbaaGreatDoor.PAll
end
section
namespace Go.Proofs.YtodnggilomanbaaGreatDoor.PAll
open Go.RowKit Go.Proofs.YtodnggilomanbaaGreatDoorW.PrintWords Go.Proofs.YtodnggilomanbaaGreatDoorW.PrintLast Go.Proofs.YtodnggilomanbaaGreatDoorW.PrintMore
set_option linter.unusedVariables false
set_option linter.unusedSimpArgs false
theorem info37 : (Tryz.prog.info? 37).map (fun i => (i.zero, i.size, i.bytes)) = some (some (.agg #[(.int .i64 0), (.string ⟨#[]⟩), (.slice none 0 0), (.slice none 0 0)]), 4, 72) := p8z
theorem k28_heap : Kd.Heap k28 := Kd.heap_fix (fun _ h_ => Kd.heap_iso _ (Kd.heap_pair (Kd.heap_int .i64) (Kd.heap_pair Kd.heap_string (Kd.heap_pair (Kd.heap_slice 9 Kd.heap_string) (Kd.heap_slice 28 h_)))))
theorem k28_openF {W : World} {ok : Nat → Prop} {x : S28} {cs : List Value} (h : Kd.FK k28 W ok x cs) : ∃ A2 c2 A3 c3, cs = [.int .i64 x.f0, .string x.f1, .slice A2 x.f2.length c2, .slice A3 x.f3.length c3] ∧ x.f2.length ≤ c2 ∧ Kd.F Kd.string W ok A2 x.f2.length x.f2 ∧ x.f3.length ≤ c3 ∧ Kd.F k28 W ok A3 x.f3.length x.f3 := by
  obtain ⟨A2, c2, A3, c3, rfl, l2, _, l3, _⟩ := k28_open (Kd.FK_now h)
  exact ⟨A2, c2, A3, c3, rfl, l2, (fun W' hW => by obtain ⟨A2_, c2_, A3_, c3_, he, l2_, g2_, l3_, g3_⟩ := k28_open (h W' hW); injection (Option.some.inj (show some (Value.slice A2 x.f2.length c2) = some (Value.slice A2_ x.f2.length c2_) from congrArg (fun l => l[2]?) he)) with ha_ _ _; rw [ha_]; exact g2_), l3, (fun W' hW => by obtain ⟨A2_, c2_, A3_, c3_, he, l2_, g2_, l3_, g3_⟩ := k28_open (h W' hW); injection (Option.some.inj (show some (Value.slice A3 x.f3.length c3) = some (Value.slice A3_ x.f3.length c3_) from congrArg (fun l => l[3]?) he)) with ha_ _ _; rw [ha_]; exact g3_)⟩
theorem k28_mkF (W : World) (ok : Nat → Prop) (x : S28) {A2 : Option Addr} {c2 : Nat} (l2 : x.f2.length ≤ c2) (g2 : Kd.F Kd.string W ok A2 x.f2.length x.f2) {A3 : Option Addr} {c3 : Nat} (l3 : x.f3.length ≤ c3) (g3 : Kd.F k28 W ok A3 x.f3.length x.f3) : Kd.FK k28 W ok x [.int .i64 x.f0, .string x.f1, .slice A2 x.f2.length c2, .slice A3 x.f3.length c3] := fun W2 hW => k28_mk W2 x l2 (g2 W2 hW) l3 (g3 W2 hW)
structure S37 where
  f0 : Int
  f1 : ByteArray
  f2 : (List ByteArray)
  f3 : (List S37)
def z37 : S37 := ⟨(0 : Int), (⟨#[]⟩ : ByteArray), ([] : List ByteArray), ([] : List S37)⟩
def F37 (d : Kd S37) : Kd S37 := Kd.iso (Kd.pair (Kd.int .i64) (Kd.pair Kd.string (Kd.pair (Kd.slice 9 Kd.string) (Kd.slice 37 d)))) (fun x : S37 => (x.f0, x.f1, x.f2, x.f3))
theorem mono37 : Kd.Mono F37 := Kd.mono_iso _ (Kd.mono_pair (Kd.mono_const _) (Kd.mono_pair (Kd.mono_const _) (Kd.mono_pair (Kd.mono_const _) (Kd.mono_slice 37 Kd.mono_id))))
theorem sub37 : Kd.Sub F37 [9, 37] := Kd.sub_iso _ (Kd.sub_pair (Kd.sub_const _ (by decide)) (Kd.sub_pair (Kd.sub_const _ (by decide)) (Kd.sub_pair (Kd.sub_const _ (by decide)) (Kd.sub_slice 37 (by decide) Kd.sub_id))))
theorem sz37 : ∀ n, (Kd.upto F37 4 [9, 37] n).sz = 4 := Kd.upto_sz (fun _ => rfl)
def k37 : Kd S37 := Kd.fix F37 4 [9, 37] sz37 (Kd.upto_E sub37)
theorem k37_heap : Kd.Heap k37 := Kd.heap_fix (fun _ h_ => Kd.heap_iso _ (Kd.heap_pair (Kd.heap_int .i64) (Kd.heap_pair Kd.heap_string (Kd.heap_pair (Kd.heap_slice 9 Kd.heap_string) (Kd.heap_slice 37 h_)))))
theorem k37_open {w : World} {x : S37} {cs : List Value} (h : k37.K w x cs) : ∃ A2 c2 A3 c3, cs = [.int .i64 x.f0, .string x.f1, .slice A2 x.f2.length c2, .slice A3 x.f3.length c3] ∧ x.f2.length ≤ c2 ∧ Kd.string.C w A2 x.f2.length x.f2 ∧ x.f3.length ≤ c3 ∧ k37.C w A3 x.f3.length x.f3 := by
  obtain ⟨n, h⟩ := h
  cases n with
  | zero => exact h.elim
  | succ n =>
    obtain ⟨_, _, rfl, rfl, ⟨_, _, rfl, rfl, ⟨_, _, rfl, ⟨A2, c2, rfl, l2, g2⟩, ⟨A3, c3, rfl, l3, g3⟩⟩⟩⟩ := h
    exact ⟨A2, c2, A3, c3, rfl, l2, g2, l3, Kd.fix_C g3⟩
theorem k37_openM {w : World} {base : Nat} {ok : Nat → Prop} {x : S37} {cs : List Value} (h : k37.M w base ok x cs) : ∃ v2 v3, cs = [.int .i64 x.f0, .string x.f1, v2, v3] ∧ Kd.string.R 9 w base ok v2 x.f2 ∧ k37.R 37 w base ok v3 x.f3 := by
  obtain ⟨n, h⟩ := h
  cases n with
  | zero => exact h.elim
  | succ n =>
    obtain ⟨_, _, rfl, rfl, ⟨_, _, rfl, rfl, ⟨_, _, rfl, ⟨v2, rfl, g2⟩, ⟨v3, rfl, g3⟩⟩⟩⟩ := h
    exact ⟨v2, v3, rfl, g2, Kd.fix_R g3⟩
theorem k37_mk (w : World) (x : S37) {A2 : Option Addr} {c2 : Nat} (l2 : x.f2.length ≤ c2) (g2 : Kd.string.C w A2 x.f2.length x.f2) {A3 : Option Addr} {c3 : Nat} (l3 : x.f3.length ≤ c3) (g3 : k37.C w A3 x.f3.length x.f3) : k37.K w x [.int .i64 x.f0, .string x.f1, .slice A2 x.f2.length c2, .slice A3 x.f3.length c3] := by
  obtain ⟨n3, q3⟩ := Kd.fix_C_back mono37 g3
  have r3 := Kd.upto_C_le mono37 sz37 (show n3 ≤ n3 by omega) q3
  exact ⟨n3 + 1, ⟨[.int .i64 x.f0], [.string x.f1, .slice A2 x.f2.length c2, .slice A3 x.f3.length c3], rfl, rfl, ⟨[.string x.f1], [.slice A2 x.f2.length c2, .slice A3 x.f3.length c3], rfl, rfl, ⟨[.slice A2 x.f2.length c2], [.slice A3 x.f3.length c3], rfl, ⟨A2, c2, rfl, l2, g2⟩, ⟨A3, c3, rfl, l3, r3⟩⟩⟩⟩⟩
theorem k37_mkM (w : World) (base : Nat) (ok : Nat → Prop) (x : S37) {v2 : Value} (g2 : Kd.string.R 9 w base ok v2 x.f2) {v3 : Value} (g3 : k37.R 37 w base ok v3 x.f3) : k37.M w base ok x [.int .i64 x.f0, .string x.f1, v2, v3] := by
  obtain ⟨n3, q3⟩ := Kd.fix_R_back mono37 g3
  have r3 := Kd.upto_R_le mono37 sz37 (show n3 ≤ n3 by omega) q3
  exact ⟨n3 + 1, ⟨[.int .i64 x.f0], [.string x.f1, v2, v3], rfl, rfl, ⟨[.string x.f1], [v2, v3], rfl, rfl, ⟨[v2], [v3], rfl, ⟨v2, rfl, g2⟩, ⟨v3, rfl, r3⟩⟩⟩⟩⟩
theorem k37_openF {W : World} {ok : Nat → Prop} {x : S37} {cs : List Value} (h : Kd.FK k37 W ok x cs) : ∃ A2 c2 A3 c3, cs = [.int .i64 x.f0, .string x.f1, .slice A2 x.f2.length c2, .slice A3 x.f3.length c3] ∧ x.f2.length ≤ c2 ∧ Kd.F Kd.string W ok A2 x.f2.length x.f2 ∧ x.f3.length ≤ c3 ∧ Kd.F k37 W ok A3 x.f3.length x.f3 := by
  obtain ⟨A2, c2, A3, c3, rfl, l2, _, l3, _⟩ := k37_open (Kd.FK_now h)
  exact ⟨A2, c2, A3, c3, rfl, l2, (fun W' hW => by obtain ⟨A2_, c2_, A3_, c3_, he, l2_, g2_, l3_, g3_⟩ := k37_open (h W' hW); injection (Option.some.inj (show some (Value.slice A2 x.f2.length c2) = some (Value.slice A2_ x.f2.length c2_) from congrArg (fun l => l[2]?) he)) with ha_ _ _; rw [ha_]; exact g2_), l3, (fun W' hW => by obtain ⟨A2_, c2_, A3_, c3_, he, l2_, g2_, l3_, g3_⟩ := k37_open (h W' hW); injection (Option.some.inj (show some (Value.slice A3 x.f3.length c3) = some (Value.slice A3_ x.f3.length c3_) from congrArg (fun l => l[3]?) he)) with ha_ _ _; rw [ha_]; exact g3_)⟩
theorem k37_mkF (W : World) (ok : Nat → Prop) (x : S37) {A2 : Option Addr} {c2 : Nat} (l2 : x.f2.length ≤ c2) (g2 : Kd.F Kd.string W ok A2 x.f2.length x.f2) {A3 : Option Addr} {c3 : Nat} (l3 : x.f3.length ≤ c3) (g3 : Kd.F k37 W ok A3 x.f3.length x.f3) : Kd.FK k37 W ok x [.int .i64 x.f0, .string x.f1, .slice A2 x.f2.length c2, .slice A3 x.f3.length c3] := fun W2 hW => k37_mk W2 x l2 (g2 W2 hW) l3 (g3 W2 hW)
def rd_T37 (xs : List S37) (i : Int) : S37 := xs.getD i.toNat z37
theorem at_T37 {w : World} {A : Option Addr} {n : Nat} {xs : List S37} (h : Kd.C k37 w A n xs) (i : Int) (h0 : 0 ≤ i) (h1 : i < n) : ∃ ad A2 c2 A3 c3, A = some ad ∧ w.cell? (ad.add (i.toNat * 4)) = some (.int .i64 (rd_T37 xs i).f0) ∧ w.cell? ⟨(ad.add (i.toNat * 4)).block, (ad.add (i.toNat * 4)).off + 1, none⟩ = some (.string (rd_T37 xs i).f1) ∧ w.cell? ⟨(ad.add (i.toNat * 4)).block, (ad.add (i.toNat * 4)).off + 2, none⟩ = some (.slice A2 (rd_T37 xs i).f2.length c2) ∧ w.cell? ⟨(ad.add (i.toNat * 4)).block, (ad.add (i.toNat * 4)).off + 3, none⟩ = some (.slice A3 (rd_T37 xs i).f3.length c3) ∧ (rd_T37 xs i).f2.length ≤ c2 ∧ Kd.string.C w A2 (rd_T37 xs i).f2.length (rd_T37 xs i).f2 ∧ (rd_T37 xs i).f3.length ≤ c3 ∧ k37.C w A3 (rd_T37 xs i).f3.length (rd_T37 xs i).f3 := by
  obtain ⟨ad, c, e, _, hK, hc0⟩ := Kd.C_get h z37 i h0 h1
  have hc : ∀ j u, c[j]? = some u → w.cell? (ad.add (i.toNat * 4 + j)) = some u := hc0
  obtain ⟨A2, c2, A3, c3, rfl, l2, g2, l3, g3⟩ := k37_open hK
  exact ⟨ad, A2, c2, A3, c3, e, hc 0 _ rfl, by rw [← add_field _ _ 1 (by omega)]; exact hc 1 _ rfl, by rw [← add_field _ _ 2 (by omega)]; exact hc 2 _ rfl, by rw [← add_field _ _ 3 (by omega)]; exact hc 3 _ rfl, l2, g2, l3, g3⟩

end Go.Proofs.YtodnggilomanbaaGreatDoor.PAll
end
section
-- Written by this repo's program wip/tools/pr.py (over the kit's print) out of the translation. Not trusted: Lean checks it.
set_option maxHeartbeats 8000000
set_option maxRecDepth 100000
namespace Go.Proofs.YtodnggilomanbaaGreatDoor.PAll
open Go.Proofs.YtodnggilomanbaaGreatDoor.Hand
open Go.RowKit Go.Proofs.YtodnggilomanbaaGreatDoorW.PrintWords Go.Proofs.YtodnggilomanbaaGreatDoorW.PrintLast Go.Proofs.YtodnggilomanbaaGreatDoorW.PrintMore
attribute [local go_sem] max2_int min2_int max_two min_two max_three min_three max_four min_four   -- for this text's walks alone
set_option linter.unusedVariables false
set_option linter.unusedSimpArgs false
attribute [-simp] List.length_take List.length_drop ByteArray.size_extract

/-! ### signetryref00_EqTexts: function 47 -/
def signetryref00_EqTexts.l0 : Nat → List ByteArray → List ByteArray → Int → Option (Bool)
  | 0, _, _, _ => none
  | k + 1, x0, x1, x5 => if x5 < (x0.length : Int) then (if 0 ≤ x5 then (if x5 < (x1.length : Int) then (if (rdOf ByteArray.empty x0 x5).toList = (rdOf ByteArray.empty x1 x5).toList then (signetryref00_EqTexts.l0 k x0 x1 (wrap64 (x5 + 1))) else (some false)) else (none)) else (none)) else (some true)
def signetryref00_EqTexts.f (k : Nat) (l0 : List ByteArray) (l1 : List ByteArray) : Option (Bool) := if (l0.length : Int) = (l1.length : Int) then (signetryref00_EqTexts.l0 k l0 l1 0) else (some false)
theorem signetryref00_EqTexts.mono_l : ∀ k, (∀ y0 y1 y2, LeO (signetryref00_EqTexts.l0 k y0 y1 y2) (signetryref00_EqTexts.l0 (k + 1) y0 y1 y2))
 | 0 => fun _ _ _ r h => by simp [signetryref00_EqTexts.l0] at h
 | k + 1 => by
  have ih0 := signetryref00_EqTexts.mono_l k
  ·intro y0 y1 y2
   unfold signetryref00_EqTexts.l0
   exact moz
theorem signetryref00_EqTexts.mono : ∀ a0 a1 k, LeO (signetryref00_EqTexts.f k a0 a1) (signetryref00_EqTexts.f (k + 1) a0 a1) := by
  intro a0 a1 k
  have ih0 := signetryref00_EqTexts.mono_l k
  unfold signetryref00_EqTexts.f
  exact moz
theorem signetryref00_EqTexts.calls (k : Nat) (A0 : Option Addr) (c0 : Nat) (l0 : List ByteArray) (A1 : Option Addr) (c1 : Nat) (l1 : List ByteArray) (r : Bool) (w : World) (hr0 : Kd.C Kd.string w A0 l0.length l0) (hc0 : l0.length ≤ c0) (hr1 : Kd.C Kd.string w A1 l1.length l1) (hc1 : l1.length ≤ c1) (h : signetryref00_EqTexts.f k l0 l1 = some r) :
 Calls Tryz.prog 47 #[.slice A0 l0.length c0, .slice A1 l1.length c1] w fun e w' => e = .returned (.bool r) ∧ Drawn0 w w' := by
 have HR0 := Aside0.mk hr0
 have HC0 := Aside0.mk hc0
 clear hr0 hc0
 have HR1 := Aside0.mk hr1
 have HC1 := Aside0.mk hc1
 clear hr1 hc1
 have H : (if (l0.length : Int) = (l1.length : Int) then (signetryref00_EqTexts.l0 k l0 l1 0) else (some false)) = some r := h
 clear h
 by_cases c3 : (l0.length : Int) = (l1.length : Int)
 case neg =>
  rw [if_neg c3] at H
  have bQ : ((l0.length : Int) == (l1.length : Int)) = false := beq_eq_false_iff_ne.mpr c3
  have cW : ((l0.length : Int) != (l1.length : Int)) = true := bne_iff_ne.mpr c3
  have fC : (l0.length == l1.length) = false := by first | simpa using c3 | (simp at c3 ⊢; omega)
  obtain rfl := Option.some.inj H
  go_enter Tryz.func47, Tryz.ntmps47
  go_wp2
  repeat (go_quiet (fail); try go_wp2)
  go_ret
  exact ⟨p7z, p9z⟩
 rw [if_pos c3] at H
 have bQ : ((l0.length : Int) == (l1.length : Int)) = true := beq_iff_eq.mpr c3
 have cW : ((l0.length : Int) != (l1.length : Int)) = false := bne_eq_false_iff_eq.mpr c3
 have fC : (l0.length == l1.length) = true := by first | simpa using c3 | (simp at c3 ⊢; omega)
 clear c3
 have H' := Aside0.mk H
 clear H
 go_enter Tryz.func47, Tryz.ntmps47
 go_wp2
 repeat (go_quiet (fail); try go_wp2)
 go_loopg [5] k (fun kq v5 w' => ∃ (aI : Int), v5 = .int .i64 aI ∧ Aside0 (signetryref00_EqTexts.l0 kq l0 l1 aI = some r) ∧ Aside0 (kq ≤ k) ∧ Drawn0 w w')
 case atStart => exact ⟨(0), p7z, H', ⟨Nat.le_refl _⟩, p9z⟩
 case round =>
  clear H'
  try clear c1
  try clear p2
  try clear c3
  try clear bQ
  try clear cW
  try clear fC
  obtain ⟨aI, rfl, HA, HK1, ⟨m1, rfl⟩⟩ := hrel
  cases gk with
  | zero => exact absurd HA.out (by simp [signetryref00_EqTexts.l0])
  | succ k1 =>
   have H := HA.out
   clear HA
   simp only [signetryref00_EqTexts.l0] at H
   by_cases c4 : aI < (l0.length : Int)
   case neg =>
    rw [if_neg c4] at H
    have bC : decide (aI < (l0.length : Int)) = false := decide_eq_false c4
    clear c4
    obtain rfl := Option.some.inj H
    go_wp2
    repeat (go_quiet (fail); try go_wp2)
    go_ret
    exact ⟨p7z, p9z⟩
   rw [if_pos c4] at H
   have bC : decide (aI < (l0.length : Int)) = true := decide_eq_true c4
   clear c4
   by_cases c5 : 0 ≤ aI
   case neg =>
    rw [if_neg c5] at H
    exact absurd H (by simp)
   rw [if_pos c5] at H
   have cH : decide (0 ≤ aI) = true := decide_eq_true c5
   clear c5
   by_cases c6 : aI < (l1.length : Int)
   case neg =>
    rw [if_neg c6] at H
    exact absurd H (by simp)
   rw [if_pos c6] at H
   have cd : decide (aI < (l1.length : Int)) = true := decide_eq_true c6
   clear c6
   by_cases c7 : (rdOf ByteArray.empty l0 aI).toList = (rdOf ByteArray.empty l1 aI).toList
   case neg =>
    rw [if_neg c7] at H
    have dj : ((rdOf ByteArray.empty l0 aI).toList == (rdOf ByteArray.empty l1 aI).toList) = false := beq_eq_false_iff_ne.mpr c7
    have c7b1 : ((rdOf ByteArray.empty l0 aI).toList != (rdOf ByteArray.empty l1 aI).toList) = true := bne_iff_ne.mpr c7
    obtain rfl := Option.some.inj H
    have p193 : 0 ≤ (aI : Int) := of_decide_eq_true p4z
    have q193 : aI < (l0.length : Int) := of_decide_eq_true p4z
    obtain ⟨ad193, e193, hx193_0⟩ := Kd.at_string HR0.out aI p193 q193
    cases e193
    replace p193 := eq_true p193
    replace q193 := eq_true q193
    have p194 : 0 ≤ (aI : Int) := of_decide_eq_true p4z
    have q194 : aI < (l1.length : Int) := of_decide_eq_true p4z
    obtain ⟨ad194, e194, hx194_0⟩ := Kd.at_string HR1.out aI p194 q194
    cases e194
    replace p194 := eq_true p194
    replace q194 := eq_true q194
    go_wp2
    repeat (go_quiet (fail); try go_wp2)
    go_ret
    exact ⟨p7z, p9z⟩
   rw [if_pos c7] at H
   have dj : ((rdOf ByteArray.empty l0 aI).toList == (rdOf ByteArray.empty l1 aI).toList) = true := beq_iff_eq.mpr c7
   have c7b1 : ((rdOf ByteArray.empty l0 aI).toList != (rdOf ByteArray.empty l1 aI).toList) = false := bne_eq_false_iff_eq.mpr c7
   clear c7
   have H' := Aside0.mk H
   clear H
   have p193 : 0 ≤ (aI : Int) := of_decide_eq_true p4z
   have q193 : aI < (l0.length : Int) := of_decide_eq_true p4z
   obtain ⟨ad193, e193, hx193_0⟩ := Kd.at_string HR0.out aI p193 q193
   cases e193
   replace p193 := eq_true p193
   replace q193 := eq_true q193
   have p194 : 0 ≤ (aI : Int) := of_decide_eq_true p4z
   have q194 : aI < (l1.length : Int) := of_decide_eq_true p4z
   obtain ⟨ad194, e194, hx194_0⟩ := Kd.at_string HR1.out aI p194 q194
   cases e194
   replace p194 := eq_true p194
   replace q194 := eq_true q194
   go_wp2
   repeat (go_quiet (fail); try go_wp2)
   go_roundg k1
   case measure => have := HK1.out; omega
   case rel => exact ⟨(wrap64 (aI + 1)), p7z, H', ⟨p61z⟩, p9z⟩
end Go.Proofs.YtodnggilomanbaaGreatDoor.PAll
end
