/-
  The seed of nodes: its state, next and word: the walks. The head of a row that is read. No walk. A seed that came in, as a list of numbers. No walk.
-/
import Derived.Test.YtodnggilomanbaaGreatDoorHandParse
import Derived.Test.YtodnggilomanbaaGreatDoorGB
import Derived.ChangeSame
import Derived.ChangeSlices
section
namespace Go.Proofs.YtodnggilomanbaaGreatDoor.Hand
open Go.RowKit Go.Lib Go.Proofs.YtodnggilomanbaaGreatDoorW.PrintWords Go.Proofs.YtodnggilomanbaaGreatDoorW.PrintMore Go.Proofs.YtodnggilomanbaaGreatDoor.PAll
set_option linter.unusedVariables false
set_option linter.unusedSimpArgs false

/-! ### the state -/
/-- A seed at block g of W: the numbers l are left; they came in by w0. -/
def IsSd (w0 W : World) (g : Nat) (l : List Int) : Prop := ∃ A c, W.heap[g]? = some (.cells #[.slice A l.length c] 58 (0, 0)) ∧ w0.heap.size ≤ g ∧ l.length ≤ c ∧ (Kd.int .i64).C w0 A l.length l
theorem IsSd.to {w0 W W1 : World} {g : Nat} {l : List Int} (h : IsSd w0 W g l) (hh : ∀ cs, W.heap[g]? = some (.cells cs 58 (0, 0)) → W1.heap[g]? = some (.cells cs 58 (0, 0))) : IsSd w0 W1 g l := by
  obtain ⟨A, c, hb, h2⟩ := h
  exact ⟨A, c, hh _ hb, h2⟩
theorem IsSd.grown {w0 W : World} {g : Nat} {l : List Int} {W1 : World} {row : Option Nat} (h : IsSd w0 W g l) (hw : W.grownBy W1 row) (hne : some g ≠ row) : IsSd w0 W1 g l := h.to fun cs hb => blk_grown hb hw hne
theorem IsSd.below {w0 W : World} {g : Nat} {l : List Int} {W1 : World} (h : IsSd w0 W g l) (hw : Below W.heap.size W W1) : IsSd w0 W1 g l := h.grown (grown_of_below hw none) (by simp)
theorem IsSd.alloc {w0 W : World} {g : Nat} {l : List Int} (h : IsSd w0 W g l) (o : Obj) : IsSd w0 (W.alloc o) g l := h.below (below_alloc (Below.refl _ _) o)
theorem IsSd.drewN {w0 W : World} {g : Nat} {l : List Int} (h : IsSd w0 W g l) (m : Nat) : IsSd w0 (W.drewN m) g l := h
theorem IsSd.drew {w0 W : World} {g : Nat} {l : List Int} (h : IsSd w0 W g l) : IsSd w0 W.drew g l := h
theorem IsSd.far {w0 W : World} {g : Nat} {l : List Int} {p : Addr} (h : IsSd w0 W g l) (hne : g ≠ p.block) (u : Value) : IsSd w0 (W.setCell p u) g l := h.to fun cs hb => blk_far hb hne u
theorem IsSd.lt {w0 W : World} {g : Nat} {l : List Int} (h : IsSd w0 W g l) : g < W.heap.size := by
  obtain ⟨A, c, hb, _⟩ := h
  exact blk_lt hb
theorem IsSd.ge {w0 W : World} {g : Nat} {l : List Int} (h : IsSd w0 W g l) : w0.heap.size ≤ g := by
  obtain ⟨A, c, hb, hg, _⟩ := h
  exact hg
theorem IsSd.apart {w0 W : World} {g : Nat} {l : List Int} {α : Type} {d : Kd α} {e : Nat} {base : Nat} {ok : Nat → Prop} {v : Value} {xs : List α} (h : IsSd w0 W g l) (ho : d.R e W base ok v xs) (ht : ∀ q, q ∈ e :: d.E → q ≠ 58) : d.R e W base (fun k => ok k ∧ k ≠ g) v xs := by
  obtain ⟨A, c, hb, _⟩ := h
  exact Kd.R_types ho hb ht
theorem IsSd.own_ne {w0 W : World} {g : Nat} {l : List Int} {α : Type} {d : Kd α} {e : Nat} {base : Nat} {ok : Nat → Prop} {v : Value} {xs : List α} (h : IsSd w0 W g l) (ho : d.R e W base ok v xs) (ht : e ≠ 58) : some g ≠ v.ownBlock := by
  obtain ⟨A, c, hb, _⟩ := h
  exact Kd.R_ne ho hb ht
/-- What a call on a seed leaves. -/
structure SdOut (w0 w w' : World) (g : Nat) (l : List Int) : Prop where
  st : IsSd w0 w' g l
  bl : Below w0.heap.size w0 w'
  kp : KeepBut w w' g none

/-! ### next -/
theorem add_add1 (a : Addr) (i j : Nat) : (a.add i).add j = a.add (i + j) := by
  unfold Addr.add
  by_cases h1 : i = 0 <;> by_cases h2 : j = 0 <;> simp [h1, h2, Nat.add_assoc]
theorem C_tail {α : Type} {k : Kd α} {w : World} {A : Option Addr} {xs : List α} {x : α} {c : Nat} (h : k.C w A (x :: xs).length (x :: xs)) (hc : (x :: xs).length ≤ c) : k.C w (if c = 1 then A else A.map (·.add k.sz)) xs.length xs := by
  refine ⟨rfl, by have := h.2.1; rw [List.length_cons] at this; omega, fun hp => ?_⟩
  rw [List.length_cons] at hc
  obtain ⟨ad, rfl, hcell⟩ := h.2.2 (by simp)
  rw [if_neg (by omega)]
  refine ⟨ad.add k.sz, rfl, fun j p hj => ?_⟩
  obtain ⟨cs, h1, h2, h3⟩ := hcell (j + 1) p (by rw [List.getElem?_cons_succ]; exact hj)
  refine ⟨cs, h1, h2, fun i u hu => ?_⟩
  rw [add_add1, show k.sz + (j * k.sz + i) = (j + 1) * k.sz + i by rw [Nat.add_mul]; omega]
  exact h3 i u hu
def bringZ (x n : Int) : Int := if Int.tmod x n < 0 then Int.tmod x n + n else Int.tmod x n
theorem bringZ_bd (x n : Int) (h : 0 < n) : 0 ≤ bringZ x n ∧ bringZ x n < n := by
  have hlt := Int.tmod_lt_of_pos x h
  have hgt : -n < Int.tmod x n := by
    have := Int.lt_tmod_of_pos x h
    omega
  unfold bringZ
  split <;> omega
theorem bring_z (x n : Int) (h0 : 0 < n) (h1 : n ≤ 9223372036854775807) : signetryref00_Bring.f x n = some (bringZ x n) := by
  have hlt := Int.tmod_lt_of_pos x h0
  have hgt : -n < Int.tmod x n := by
    have := Int.lt_tmod_of_pos x h0
    omega
  unfold signetryref00_Bring.f bringZ
  rw [if_neg (by omega)]
  split
  · have : wrap64 (Int.tmod x n + n) = Int.tmod x n + n := by unfold wrap64; omega
    rw [this]
  · rfl
def nextF (l : List Int) (n : Int) : Int × List Int := match l with
  | [] => (0, [])
  | x :: t => (bringZ x n, t)
theorem nextF_bd (l : List Int) (n : Int) (h : 0 < n) : 0 ≤ (nextF l n).1 ∧ (nextF l n).1 < n := by
  cases l with
  | nil => exact ⟨Int.le_refl _, h⟩
  | cons x t => exact bringZ_bd x n h
set_option maxRecDepth 100000 in
set_option maxHeartbeats 4000000 in
theorem next_calls (g : Nat) (l : List Int) (n : Int) (w0 w : World) (hI : IsSd w0 w g l) (hB : Below w0.heap.size w0 w) (h0 : 0 < n) (h1 : n ≤ 1000) :
    Calls Tryz.prog 53 #[.pointer (some ⟨g, 0, none⟩), .int .i64 n] w fun e w' => e = .returned (.int .i64 (nextF l n).1) ∧ SdOut w0 w w' g (nextF l n).2 := by
  have HI := hid hI
  obtain ⟨A, c, hb, hg, hc, hC⟩ := hI
  have hz0 : w.cell? ⟨g, 0, none⟩ = some (.slice A l.length c) := (blk_cell hb 0).trans rfl
  cases l with
  | nil =>
    have hl : (([] : List Int).length : Int) = 0 := rfl
    go_enter Tryz.func53, Tryz.ntmps53
    go_wp2
    go_ret
    exact ⟨rfl, HI.out, hB, KeepBut.refl _ _ _⟩
  | cons x t =>
    obtain ⟨ad, rfl⟩ : ∃ ad, A = some ad := by
      cases A with
      | none => exact absurd hC.2.2 (by simp)
      | some ad => exact ⟨ad, rfl⟩
    have hcl : w.cell? ad = some (.int .i64 x) := by
      have := Kd.foot_int (Kd.C_below hC hB) 0 (Int.le_refl _) (by simp)
      have e : ad.add (Int.toNat 0) = ad := rfl
      rw [e] at this
      exact this
    have hbr := signetryref00_Bring.calls x n (bringZ x n) w (bring_z x n h0 (by omega))
    have hf0 := blk_frozen hb 0
    go_enter Tryz.func53, Tryz.ntmps53
    go_wp2_with (go_at_call 27; refine hbr.mono ?_; rintro e w4 ⟨rfl, ⟨nq, rfl⟩⟩; have hz4 : (w.drewN nq).cell? ⟨g, 0, none⟩ = some (.slice (some ad) (x :: t).length c) := hz0; have hf4 : (w.drewN nq).frozen? ⟨g, 0, none⟩ = false := hf0)
    · have h1c : c = 1 := by assumption
      have hD := C_tail hC hc
      rw [if_pos h1c] at hD
      subst h1c
      go_ret
      refine ⟨rfl, ?_⟩
      show SdOut w0 w _ g t
      exact ⟨⟨some ad, 0, by simpa using blk_set (w := w.drewN nq) hb 0 (.slice (some ad) t.length 0), hg, by simp at hc; simp [hc], hD⟩, below_set (pw_below_drewN hB _) hg, KeepBut.set_ (keep_drewN (KeepBut.refl w g none) _) 0 _⟩
    · have h1c : ¬ c = 1 := by assumption
      have hD := C_tail hC hc
      rw [if_neg h1c] at hD
      go_ret
      refine ⟨rfl, ?_⟩
      show SdOut w0 w _ g t
      exact ⟨⟨some ⟨ad.block, ad.off + 1, none⟩, c - 1, by simpa using blk_set (w := w.drewN nq) hb 0 (.slice (some ⟨ad.block, ad.off + 1, none⟩) t.length (c - 1)), hg, by rw [List.length_cons] at hc; omega, hD⟩, below_set (pw_below_drewN hB _) hg, KeepBut.set_ (keep_drewN (KeepBut.refl w g none) _) 0 _⟩
/-! ### word -/
def wpieces : List ByteArray := [⟨#[97]⟩, ⟨#[98]⟩, ⟨#[34]⟩, ⟨#[92]⟩, ⟨#[10]⟩, ⟨#[0]⟩, ⟨#[47]⟩, ⟨#[195, 164]⟩, ⟨#[240, 159, 152, 128]⟩, ⟨#[127]⟩, ⟨#[123]⟩, ⟨#[44]⟩]
def pieceB (j : Int) : ByteArray := wpieces.getD j.toNat ⟨#[]⟩
abbrev pieceC : Array Value := #[.string ⟨#[97]⟩, .string ⟨#[98]⟩, .string ⟨#[34]⟩, .string ⟨#[92]⟩, .string ⟨#[10]⟩, .string ⟨#[0]⟩, .string ⟨#[47]⟩, .string ⟨#[195, 164]⟩, .string ⟨#[240, 159, 152, 128]⟩, .string ⟨#[127]⟩, .string ⟨#[123]⟩, .string ⟨#[44]⟩]
theorem pieceC_at {j : Int} (h0 : 0 ≤ j) (h1 : j < 12) : pieceC[j.toNat]? = some (.string (pieceB j)) := by
  have h : j = 0 ∨ j = 1 ∨ j = 2 ∨ j = 3 ∨ j = 4 ∨ j = 5 ∨ j = 6 ∨ j = 7 ∨ j = 8 ∨ j = 9 ∨ j = 10 ∨ j = 11 := by omega
  rcases h with rfl | rfl | rfl | rfl | rfl | rfl | rfl | rfl | rfl | rfl | rfl | rfl <;> rfl
theorem pieceB_sz {j : Int} (h0 : 0 ≤ j) (h1 : j < 12) : (pieceB j).size ≤ 4 := by
  have h : j = 0 ∨ j = 1 ∨ j = 2 ∨ j = 3 ∨ j = 4 ∨ j = 5 ∨ j = 6 ∨ j = 7 ∨ j = 8 ∨ j = 9 ∨ j = 10 ∨ j = 11 := by omega
  rcases h with rfl | rfl | rfl | rfl | rfl | rfl | rfl | rfl | rfl | rfl | rfl | rfl <;> decide
def wordR : Nat → List Int → ByteArray → ByteArray × List Int
  | 0, l, out => (out, l)
  | i + 1, l, out => wordR i (nextF l 12).2 (out ++ pieceB (nextF l 12).1)
def sdWord (l : List Int) : ByteArray × List Int := wordR (nextF l 4).1.toNat (nextF l 4).2 ⟨#[]⟩
theorem wordR_sz : ∀ (i : Nat) (l : List Int) (o : ByteArray), (wordR i l o).1.size ≤ o.size + 4 * i
  | 0, l, o => Nat.le_refl _
  | i + 1, l, o => by
    have h := nextF_bd l 12 (by decide)
    have h1 := pieceB_sz h.1 h.2
    have h2 := wordR_sz i (nextF l 12).2 (o ++ pieceB (nextF l 12).1)
    rw [ByteArray.size_append] at h2
    rw [wordR]
    omega
theorem sdWord_sz (l : List Int) : (sdWord l).1.size ≤ 12 := by
  have h := nextF_bd l 4 (by decide)
  have h2 := wordR_sz (nextF l 4).1.toNat (nextF l 4).2 ⟨#[]⟩
  have h3 : (⟨#[]⟩ : ByteArray).size = 0 := rfl
  unfold sdWord
  omega
set_option maxRecDepth 100000 in
set_option maxHeartbeats 4000000 in
theorem sword_calls (g : Nat) (l : List Int) (w0 w : World) (hI : IsSd w0 w g l) (hB : Below w0.heap.size w0 w) :
    Calls Tryz.prog 54 #[.pointer (some ⟨g, 0, none⟩)] w fun e w' => e = .returned (.string (sdWord l).1) ∧ SdOut w0 w w' g (sdWord l).2 := by
  have hnx := next_calls g l 4 w0 w hI hB (by decide) (by decide)
  have hbd := nextF_bd l 4 (by decide)
  obtain ⟨RR, hR⟩ : ∃ RR, sdWord l = RR := ⟨_, rfl⟩
  unfold sdWord at hR
  obtain ⟨N, hN⟩ : ∃ N : Nat, (nextF l 4).1 = (N : Int) := ⟨(nextF l 4).1.toNat, by omega⟩
  have hR0 : sdWord l = RR := hR
  rw [hN, Int.toNat_natCast] at hR
  rw [hN] at hnx hbd
  rw [hR0]
  go_enter Tryz.func54, Tryz.ntmps54
  go_wp2_with (go_at_call 53; refine hnx.mono ?_; rintro e w4 ⟨rfl, hs4⟩)
  have HR := hid hR
  clear hR hR0 hnx hN
  go_loopw [3, 4] (fun v3 v4 wr => ∃ (i : Nat) (o : ByteArray) (l' : List Int), v3 = .string o ∧ v4 = .int .i64 i ∧ SdOut w0 w wr g l' ∧ wordR i l' o = RR ∧ o.size + 4 * i ≤ 12) (fun _ v4 _ => (intOf v4).toNat)
  case atStart => exact ⟨N, ⟨#[]⟩, (nextF l 4).2, rfl, rfl, hs4, HR.out, by have : (⟨#[]⟩ : ByteArray).size = 0 := rfl; omega⟩
  case round =>
    obtain ⟨i, o, l', rfl, rfl, hs, hr, hsz⟩ := hrel
    cases i with
    | zero =>
      rw [wordR] at hr
      have hq : decide ((0 : Int) < 0) = false := rfl
      go_wp2
      go_ret
      rw [← hr]
      exact ⟨rfl, hs⟩
    | succ i =>
      rw [wordR] at hr
      have hp : decide ((0 : Int) < ((i + 1 : Nat) : Int)) = true := decide_eq_true (by omega)
      have hb2 := nextF_bd l' 12 (by decide)
      obtain ⟨j, hj⟩ : ∃ j, (nextF l' 12).1 = j := ⟨_, rfl⟩
      obtain ⟨l2, hl2⟩ : ∃ l2, (nextF l' 12).2 = l2 := ⟨_, rfl⟩
      have hn2 := next_calls g l' 12 w0 (wr.alloc (.cells pieceC 9)) (hs.st.alloc _) (below_alloc hs.bl _) (by decide) (by decide)
      rw [hj, hl2] at hn2 hr
      rw [hj] at hb2
      have hpz := pieceB_sz hb2.1 hb2.2
      have hpc := pieceC_at hb2.1 hb2.2
      obtain ⟨pb, hpb⟩ : ∃ pb, pieceB j = pb := ⟨_, rfl⟩
      rw [hpb] at hr hpz hpc
      have hne : wr.heap.size ≠ g := (Nat.ne_of_lt hs.st.lt).symm
      have hb0 : (wr.alloc (.cells pieceC 9)).heap[wr.heap.size]? = some (.cells pieceC 9 (0, 0)) := heap_alloc_new wr _
      have HS := hid hs
      have HRR := hid hr
      have p1 := eq_true hb2.1
      have p2 := eq_true hb2.2
      have hsm : o.size + pb.size ≤ 12 := by omega
      have HB2 := hid hb2
      have HSZ := hid hsz
      have HPZ := hid hpz
      clear hs hr hb2 hsz hpz hj hl2 hpb HR hI hB hs4
      go_wp2_with (go_at_call 53; refine hn2.mono ?_; rintro e w5 ⟨rfl, hs5⟩; have hc5 := (blk_cell (hs5.kp.blk hb0 hne (by simp)) j.toNat).trans hpc; have HS5 := hid hs5; clear hs5)
      have hw : wrap64 (i : Int) = (i : Int) := by have := HSZ.out; unfold wrap64; omega
      rw [hw]
      have hsz2 := HSZ.out
      have hpz2 := HPZ.out
      refine ⟨⟨i, o ++ pb, l2, rfl, rfl, ⟨HS5.out.st, HS5.out.bl, (keep_alloc HS.out.kp _).trans HS5.out.kp (.inl rfl)⟩, HRR.out, by rw [ByteArray.size_append]; omega⟩, by simp [intOf]⟩
end Go.Proofs.YtodnggilomanbaaGreatDoor.Hand
end
section
namespace Go.Proofs.YtodnggilomanbaaGreatDoor.Hand
open Go.RowKit Go.Lib Go.Proofs.YtodnggilomanbaaGreatDoorW.PrintWords Go.Proofs.YtodnggilomanbaaGreatDoorW.PrintLast Go.Proofs.YtodnggilomanbaaGreatDoorW.PrintMore
theorem C_take {α : Type} {k : Kd α} {w : World} {A : Option Addr} {xs : List α} (h : k.C w A xs.length xs) (m : Nat) : k.C w A (xs.take m).length (xs.take m) := by
  refine ⟨rfl, by have := h.2.1; rw [List.length_take]; omega, fun hp => ?_⟩
  have hx : 0 < xs.length := by
    rw [List.length_take] at hp
    omega
  obtain ⟨ad, e, hcell⟩ := h.2.2 hx
  refine ⟨ad, e, fun j p hj => hcell j p ?_⟩
  rw [List.getElem?_take] at hj
  split at hj
  · exact hj
  · cases hj
end Go.Proofs.YtodnggilomanbaaGreatDoor.Hand
end
section
namespace Go.Proofs.YtodnggilomanbaaGreatDoor.Hand
open Go.ChangeShapes Go.WideShapes Go.RowKit Go.Proofs.YtodnggilomanbaaGreatDoorW.PrintWords Go.Proofs.YtodnggilomanbaaGreatDoorW.PrintLast Go.Proofs.YtodnggilomanbaaGreatDoorW.PrintMore Go.Proofs.YtodnggilomanbaaGreatDoor.PAll
set_option linter.unusedVariables false
set_option linter.unusedSimpArgs false
section
variable {H : Type} {enc : TypeId × Value → H} {w : World} {base : Nat} {held : Bool}
theorem open_row {fuel : Nat} {v : Value} {y : DataW H × List MemPlace} (h : DataW.trod enc Tryz.prog w base (fun _ => true) held fuel 56 [v] = some y) :
    ∃ (A : Option Addr) (c : Nat) (l : List Int), v = .slice A l.length c ∧ l.length ≤ c ∧ (Kd.int .i64).C w A l.length l := by
  rcases open_ints Tryz.underlying56 Tryz.underlying3 (by kernel_rfl) h with ⟨hcs, _⟩ | ⟨x, l, c, zs, hcs, _, hl, hm, hz, _, hcell, hwz⟩
  · simp only [List.cons.injEq, and_true] at hcs
    obtain ⟨l0, e0, hr0, _, hw0, hc0⟩ := ReadsInt.ofRowC (k := .i64) (w := w) (a := none) (len := 0) (cap := 0) (zs := []) (.inl ⟨rfl, rfl, rfl, rfl⟩)
    have hl0 : l0 = [] := List.eq_nil_of_length_eq_zero e0.symm
    subst hl0
    exact ⟨none, 0, [], hcs, Nat.le_refl _, Kd.C_of_reads (d := (0 : Int)) (h1 := fun _ => rfl) hr0⟩
  · simp only [List.cons.injEq, and_true] at hcs
    subst hcs
    obtain ⟨l0, e0, hr0, _, hw0, hc0⟩ := ReadsInt.ofRowC (k := .i64) (w := w) (a := some x) (len := l) (cap := c) (zs := zs) (.inr ⟨x, rfl, hl, hm, by simpa using hz, hcell, hwz⟩)
    subst e0
    exact ⟨some x, c, l0, rfl, hc0, Kd.C_of_reads (d := (0 : Int)) (h1 := fun _ => rfl) hr0⟩
theorem open_seed {v : Value} {cs : Array Value} {x : DataW H × List MemPlace} (hv : v = .agg cs) (h : ∃ fuel, DataW.trod enc Tryz.prog w base (fun _ => true) held fuel 58 v.cells.toList = some x) :
    ∃ (A : Option Addr) (c : Nat) (l : List Int), v = .agg #[.slice A l.length c] ∧ l.length ≤ c ∧ (Kd.int .i64).C w A l.length l := by
  subst hv
  obtain ⟨fuel, hf⟩ := h
  obtain ⟨y, n, _, hlen, h1⟩ := trod_struct1 Tryz.underlying58 hf
  have hl1 : (Value.cells (.agg cs)).toList.length = 1 := hlen.trans (by kernel_rfl)
  obtain ⟨L⟩ := cs
  have hL : (Value.cells (.agg ⟨L⟩)).toList = L := rfl
  rw [hL] at hl1
  obtain ⟨z, rfl⟩ := List.length_eq_one_iff.1 hl1
  have hc : Tryz.prog.cellsOf 56 = 1 := by kernel_rfl
  simp only at h1
  rw [hc] at h1
  have h1 : DataW.trod enc Tryz.prog w base (fun _ => true) held n 56 [z] = some y := h1
  obtain ⟨A, c, l, rfl, h2, h3⟩ := open_row h1
  exact ⟨A, c, l, rfl, h2, h3⟩
end
end Go.Proofs.YtodnggilomanbaaGreatDoor.Hand
end
