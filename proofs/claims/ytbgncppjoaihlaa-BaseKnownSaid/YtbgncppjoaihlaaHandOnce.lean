/-
  base's table of letters: made once (sync.Once), looked into afterwards.
-/
import Derived.Test.YtbgncppjoaihlaaHandText
import Derived.Tactics
import Derived.Tactics2
import Derived.Defers
import Derived.Laws.Pointers
import Derived.Laws.LoneSync
import Derived.RegionTactic
import Derived.RegionCalls
import Derived.ChangeAlike
import Derived.Lib.OthersKept
import Derived.WalkSmall
import Derived.Deep.QuietTactic
import Derived.BigQuiet
namespace Go.Proofs.Ytbgncppjoaihlaa.Hand
open Go.RowKit Go.Proofs.YtbgncppjoaihlaaW.PrintWords

/-! ### The table in memory -/
/-- Block T is a table: done or not, its lock's state, what it has for each byte. -/
def Tbl (W : World) (T : Nat) (d s : Int) (f : Nat → Int) : Prop :=
  ∃ cs : Array Value, W.heap[T]? = some (.cells cs 55 (0, 0)) ∧ cs.size = 259 ∧ cs[0]? = some (.int .u32 d) ∧ cs[1]? = some (.int .i32 s) ∧ ∀ j, j < 256 → cs[3 + j]? = some (.int .u8 (f j))
section
variable {W W' : World} {T : Nat} {d s : Int} {f : Nat → Int}
theorem Tbl.lt (h : Tbl W T d s f) : T < W.heap.size := by obtain ⟨cs, h, _⟩ := h; exact (Array.getElem?_eq_some_iff.1 h).1
theorem Tbl.c0 (h : Tbl W T d s f) : W.cell? ⟨T, 0, none⟩ = some (.int .u32 d) := by obtain ⟨cs, h, _, h0, _⟩ := h; simp [World.cell?, h, h0]
theorem Tbl.c1 (h : Tbl W T d s f) : W.cell? ⟨T, 1, none⟩ = some (.int .i32 s) := by obtain ⟨cs, h, _, _, h1, _⟩ := h; simp [World.cell?, h, h1]
theorem Tbl.cj (h : Tbl W T d s f) (j : Nat) (hj : j < 256) : W.cell? ⟨T, 3 + j, none⟩ = some (.int .u8 (f j)) := by obtain ⟨cs, h, _, _, _, hc⟩ := h; simp [World.cell?, h, hc j hj]
theorem Tbl.fz (h : Tbl W T d s f) (i : Nat) : W.frozen? ⟨T, i, none⟩ = false := by obtain ⟨cs, h, _⟩ := h; simp [World.frozen?, h]
theorem Tbl.of_heap (h : Tbl W T d s f) (hh : W'.heap[T]? = W.heap[T]?) : Tbl W' T d s f := by obtain ⟨cs, h, r⟩ := h; exact ⟨cs, hh.trans h, r⟩
theorem Tbl.kept (h : Tbl W T d s f) {row : Option Nat} (hg : W.grownBy W' row) (hr : some T ≠ row) : Tbl W' T d s f := h.of_heap (hg.block T h.lt hr)
theorem Tbl.alloc (h : Tbl W T d s f) (o : Obj) : Tbl (W.alloc o) T d s f := h.of_heap (Below.heap_alloc W o T h.lt)
theorem Tbl.drew (h : Tbl W T d s f) : Tbl W.drew T d s f := h
theorem Tbl.far (h : Tbl W T d s f) {p : Addr} (hp : T ≠ p.block) (v : Value) : Tbl (W.setCell p v) T d s f := h.of_heap (Below.heap_setCell W p v T hp)
theorem Tbl.iterAt (h : Tbl W T d s f) {k : Nat} (hk : T ≠ k) (q : ByteArray) (pos : Nat) : Tbl (W.iterAt k q pos) T d s f := h.of_heap (Lib.iterAt_other W k T q pos hk)
theorem setCell_block {cs : Array Value} {t : TypeId} {fz : Nat × Nat} (h : W.heap[T]? = some (.cells cs t fz)) (i : Nat) (v : Value) : (W.setCell ⟨T, i, none⟩ v).heap[T]? = some (.cells (cs.setIfInBounds i v) t fz) := by
  simp [World.setCell, Array.getElem?_modify, h]
theorem Tbl.set0 (h : Tbl W T d s f) (d' : Int) : Tbl (W.setCell ⟨T, 0, none⟩ (.int .u32 d')) T d' s f := by
  obtain ⟨cs, h, hs, h0, h1, hc⟩ := h
  refine ⟨_, setCell_block h 0 _, by simpa using hs, ?_, ?_, fun j hj => ?_⟩
  · rw [Array.getElem?_setIfInBounds_self_of_lt (by omega)]
  · rw [Array.getElem?_setIfInBounds_ne (by omega)]; exact h1
  · rw [Array.getElem?_setIfInBounds_ne (by omega)]; exact hc j hj
theorem Tbl.set1 (h : Tbl W T d s f) (s' : Int) : Tbl (W.setCell ⟨T, 1, none⟩ (.int .i32 s')) T d s' f := by
  obtain ⟨cs, h, hs, h0, h1, hc⟩ := h
  refine ⟨_, setCell_block h 1 _, by simpa using hs, ?_, ?_, fun j hj => ?_⟩
  · rw [Array.getElem?_setIfInBounds_ne (by omega)]; exact h0
  · rw [Array.getElem?_setIfInBounds_self_of_lt (by omega)]
  · rw [Array.getElem?_setIfInBounds_ne (by omega)]; exact hc j hj
theorem Tbl.setj (h : Tbl W T d s f) (k : Nat) (_hk : k < 256) (x : Int) : Tbl (W.setCell ⟨T, 3 + k, none⟩ (.int .u8 x)) T d s (fun j => if j = k then x else f j) := by
  obtain ⟨cs, h, hs, h0, h1, hc⟩ := h
  refine ⟨_, setCell_block h (3 + k) _, by simpa using hs, ?_, ?_, fun j hj => ?_⟩
  · rw [Array.getElem?_setIfInBounds_ne (by omega)]; exact h0
  · rw [Array.getElem?_setIfInBounds_ne (by omega)]; exact h1
  · by_cases e : j = k
    · subst e
      rw [Array.getElem?_setIfInBounds_self_of_lt (by omega)]; simp
    · rw [Array.getElem?_setIfInBounds_ne (by omega)]; simpa [e] using hc j hj
end

/-! ### 'only block g, and what is new, has turned' -/
theorem only_refl (w : World) (row : Option Nat) : w.grownBy w row := World.grownBy.refl w row
theorem only_drew {a w : World} {row : Option Nat} (h : a.grownBy w row) : a.grownBy w.drew row := ⟨h.os, h.tape, h.output, h.size, h.block⟩
theorem only_drewN {a w : World} {row : Option Nat} (h : a.grownBy w row) (n : Nat) : a.grownBy (w.drewN n) row := ⟨h.os, h.tape, h.output, h.size, h.block⟩
theorem only_alloc {a w : World} {row : Option Nat} (h : a.grownBy w row) (o : Obj) : a.grownBy (w.alloc o) row :=
  ⟨h.os, h.tape, h.output, Nat.le_trans h.size (by simp), fun i hi hne => (Below.heap_alloc w o i (Nat.lt_of_lt_of_le hi h.size)).trans (h.block i hi hne)⟩
theorem only_setCell {a w : World} {g : Nat} (h : a.grownBy w (some g)) {p : Addr} (hp : p.block = g ∨ a.heap.size ≤ p.block) (u : Value) : a.grownBy (w.setCell p u) (some g) :=
  ⟨h.os, h.tape, h.output, by simpa [World.setCell] using h.size, fun i hi hne => (Below.heap_setCell w p u i (by
    rintro rfl
    rcases hp with hp | hp
    · exact hne (by rw [hp])
    · omega)).trans (h.block i hi hne)⟩
theorem only_iterAt {a w : World} {row : Option Nat} (h : a.grownBy w row) {k : Nat} (hk : a.heap.size ≤ k) (s : ByteArray) (pos : Nat) : a.grownBy (w.iterAt k s pos) row :=
  ⟨h.os, h.tape, h.output, by rw [Lib.iterAt_size]; exact h.size, fun i hi hne => (Lib.iterAt_other w k i s pos (by omega)).trans (h.block i hi hne)⟩

/-! ### The closure that fills the table -/
/-- What the table has for each byte when so many letters are in. -/
def tbUpto : Nat → Nat → Int
  | 0, _ => 0
  | k + 1, j => if j = (letters.data[k]?.getD 0).toNat then (k : Int) + 1 else tbUpto k j

theorem letters_low : ∀ k : Fin 64, (letters.data[k.1]?.getD 0).toNat < 128 := by decide
theorem letter_next {k : Nat} (hk : k < 64) {wr : World} {b : Nat} (h : wr.heap[b]? = some (.stringIter letters k)) :
    ∃ c : Nat, c < 128 ∧ (∀ j, tbUpto (k + 1) j = if j = c then (k : Int) + 1 else tbUpto k j) ∧
      ∀ ty, (Instr.next (.pointer (some ⟨b, 0, none⟩)) true ty).run Try.prog wr = .ok (.tuple #[.bool true, .int .i64 k, .int .i32 c]) (wr.iterAt b letters (k + 1)) := by
  have hs : k < letters.size := hk
  refine ⟨(letters[k]'hs).toNat, ?_, ?_, fun ty => ?_⟩
  · have := letters_low ⟨k, hk⟩
    rw [show letters.data[k]? = some (letters[k]'hs) from Array.getElem?_eq_getElem hs] at this
    exact this
  · intro j
    show (if j = (letters.data[k]?.getD 0).toNat then _ else _) = _
    rw [show letters.data[k]? = some (letters[k]'hs) from Array.getElem?_eq_getElem hs]
    rfl
  · exact Lib.run_next_ascii_at wr b letters k ty h hs (by have := letters_low ⟨k, hk⟩; rw [show letters.data[k]? = some (letters[k]'hs) from Array.getElem?_eq_getElem hs] at this; exact this)

set_option maxRecDepth 100000 in
set_option maxHeartbeats 2000000 in
theorem fill_calls (pl : Addr) (T : Nat) (d s : Int) (W : World) (hp : W.cell? pl = some (.pointer (some ⟨T, 0, none⟩))) (hpl : pl.block ≠ T) (hT : Tbl W T d s (tbUpto 0)) :
    Calls Try.prog 27 #[.pointer (some pl)] W fun e W' => e = .returned (.tuple #[]) ∧ W.grownBy W' (some T) ∧ Tbl W' T d s (tbUpto 64) := by
  go_enter Try.func27, Try.ntmps27
  go_wp2
  have hT0 : Tbl (W.iter letters 0) T d s (tbUpto 0) := hT.of_heap (Below.heap_alloc W (.stringIter letters 0) T hT.lt)
  have hg0 : W.grownBy (W.iter letters 0) (some T) := only_alloc (only_refl W _) (.stringIter letters 0)
  have hi0 : (W.iter letters 0).heap[W.heap.size]? = some (.stringIter letters 0) := World.alloc_heap_new W (.stringIter letters 0)
  have hTlt := hT.lt
  have hpb : pl.block < W.heap.size := World.block_lt_of_cell? W _ hp
  change Code.wp _ _ _ _ (W.iter letters 0)
  clear hT
  go_loopw [] (fun wr => ∃ k : Nat, k ≤ 64 ∧ wr.heap[W.heap.size]? = some (.stringIter letters k) ∧ W.grownBy wr (some T) ∧ Tbl wr T d s (tbUpto k)) (fun wr => 64 - wr.iterPos W.heap.size)
  case atStart => exact ⟨0, by omega, hi0, hg0, hT0⟩
  case round =>
    obtain ⟨k, hk, hik, hgk, hTk⟩ := hrel
    have hit := iterPos_of hik
    by_cases hlt : k < 64
    · obtain ⟨c, hc, hup, hnx⟩ := letter_next hlt hik
      have hT1 : Tbl (wr.iterAt W.heap.size letters (k + 1)) T d s (tbUpto k) := hTk.iterAt (by omega) _ _
      have hcell := hT1.cj c (by omega)
      have hfz := hT1.fz (3 + c)
      have hpl1 : (wr.iterAt W.heap.size letters (k + 1)).cell? pl = some (.pointer (some ⟨T, 0, none⟩)) := (World.cell?_of_block ((only_iterAt hgk (Nat.le_refl _) _ _).block _ hpb (fun e => hpl (by injection e)))).trans hp
      go_wp2
      have hup' : tbUpto (k + 1) = fun j => if j = c then (k : Int) + 1 else tbUpto k j := funext hup
      have hik2 : ((wr.iterAt W.heap.size letters (k + 1)).setCell ⟨T, 3 + c, none⟩ (.int .u8 ((k : Int) + 1))).heap[W.heap.size]? = some (.stringIter letters (k + 1)) := (Below.heap_setCell _ _ _ _ (by simp; omega)).trans (Lib.iterAt_heap _ _ _ _ _ hik)
      refine ⟨⟨k + 1, by omega, hik2, only_setCell (only_iterAt hgk (Nat.le_refl _) _ _) (.inl rfl) _, by rw [hup']; exact hT1.setj c (by omega) _⟩, ?_⟩
      rw [iterPos_of hik2, hit]
      omega
    · obtain rfl : k = 64 := by omega
      have hnx : ∀ ty, (Instr.next (.pointer (some ⟨W.heap.size, 0, none⟩)) true ty).run Try.prog wr = .ok (.tuple #[.bool false]) wr := fun ty => Lib.run_next_end_at wr W.heap.size letters 64 ty hik (by decide)
      go_wp2
      go_end0
      exact ⟨rfl, hgk, hTk⟩

/-! ### sync.Once -/
theorem disable (w : World) : (callFunc 38 #[]).run Try.prog w = .ok (.value (.tuple #[])) w := run_call_mark0 Try.func38 (by kernel_rfl) (by kernel_rfl) (by kernel_rfl) .disable (by kernel_rfl) w
theorem enable (w : World) : (callFunc 40 #[]).run Try.prog w = .ok (.value (.tuple #[])) w := run_call_mark0 Try.func40 (by kernel_rfl) (by kernel_rfl) (by kernel_rfl) .enable (by kernel_rfl) w
theorem acquire (a : Addr) (w : World) : (callFunc 41 #[.pointer (some a)]).run Try.prog w = .ok (.value (.tuple #[])) w := run_call_marked Try.func41 (by kernel_rfl) (by kernel_rfl) (by kernel_rfl) .acquire (by kernel_rfl) a w
theorem releaseMerge (a : Addr) (w : World) : (callFunc 43 #[.pointer (some a)]).run Try.prog w = .ok (.value (.tuple #[])) w := run_call_marked Try.func43 (by kernel_rfl) (by kernel_rfl) (by kernel_rfl) .releaseMerge (by kernel_rfl) a w

/-- '(*sync/atomic.Bool).Store(true)', entered as a deferred call. -/
theorem store_deferred (a : Addr) (x : Value) (u : FrameMode) (w : World) (hc : w.cell? a = some x) (hz : w.frozen? a = false) :
    CallsD Try.prog 33 #[.pointer (some a), .bool true] u w fun e u' w' => u' = u ∧ (e = .returned (.tuple #[]) ∧ w' = w.drew.setCell a (.int .u32 1)) := by
  have hc' : w.drew.cell? a = some x := by go_simp
  have hz' : w.drew.frozen? a = false := by go_simp
  have hst := run_call_store (P := Try.prog) Try.func36 (by kernel_rfl) (by kernel_rfl) (by kernel_rfl) (by kernel_rfl) (k := .u32) (y := 1) hc' hz'
  go_enter_d Try.func33, Try.ntmps33
  go_wp2
  go_region_calls
  all_goals (go_end0; exact ⟨rfl, rfl⟩)

/-- '(*sync.Mutex).Unlock', entered as a deferred call, the lock held and nobody waiting. -/
theorem unlock_deferred (a : Addr) (u : FrameMode) (w : World) (hc : w.cell? a = some (.int .i32 1)) (hz : w.frozen? a = false) :
    CallsD Try.prog 32 #[.pointer (some a)] u w fun e u' w' => u' = u ∧ (e = .returned (.tuple #[]) ∧ w' = w.setCell a (.int .i32 0)) := by
  have hd := disable
  have he := enable
  have hr := releaseMerge
  have hadd := run_call_add (P := Try.prog) Try.func44 (by kernel_rfl) (by kernel_rfl) (by kernel_rfl) .i32 (by kernel_rfl) (y := -1) (s := 0) hc hz (by simp [go_sem]; rfl)
  have hcv := run_convert_to_unsafe (P := Try.prog) (src := 69) (dst := 73) Try.underlying69 Try.underlying73 (by kernel_rfl) hc
  go_enter_d Try.func32, Try.ntmps32
  go_wp2
  go_end0
  go_wp2
  go_end0
  exact ⟨rfl, rfl⟩

/-- '(*sync.Mutex).Lock', the lock free. -/
theorem lock_free (a : Addr) (w : World) (hc : w.cell? a = some (.int .i32 0)) (hz : w.frozen? a = false) :
    Calls Try.prog 31 #[.pointer (some a)] w fun e w' => e = .returned (.tuple #[]) ∧ w.setCell a (.int .i32 1) = w' := by
  have hd := disable
  have he := enable
  have ha := acquire
  have hcas := run_call_cas_hit (P := Try.prog) Try.func39 (by kernel_rfl) (by kernel_rfl) (by kernel_rfl) .i32 (by kernel_rfl) (y := 1) hc hz
  have hc' : (w.setCell a (.int .i32 1)).cell? a = some (.int .i32 1) := World.cell?_setCell_same w a _ hc
  have hcv := run_convert_to_unsafe (P := Try.prog) (src := 69) (dst := 73) Try.underlying69 Try.underlying73 (by kernel_rfl) hc'
  go_enter Try.func31, Try.ntmps31
  go_wp2
  first | go_end0 | (simp only [Exit.inBlock, Exit.then]; refine bodyPost_ret (results_none rfl _ _ _) rfl ?_) | refine bodyPost_ret (results_none rfl _ _ _) rfl ?_
  go_wp2
  go_end0
  exact ⟨rfl, rfl⟩

set_option maxRecDepth 100000 in
set_option maxHeartbeats 1600000 in
theorem slow_any (pl : Addr) (T : Nat) (w : World) (hp : w.cell? pl = some (.pointer (some ⟨T, 0, none⟩))) (hpl : pl.block ≠ T) (hT : Tbl w T 0 0 (tbUpto 0)) :
    Calls Try.prog 29 #[.pointer (some ⟨T, 0, none⟩), .func (.func 27) #[] #[.pointer (some pl)]] w fun e w' => e = .returned (.tuple #[]) ∧ w.grownBy w' (some T) ∧ Tbl w' T 1 0 (tbUpto 64) := by
  have hT1 := hT.set1 1
  have hg1 : w.grownBy (w.setCell ⟨T, 1, none⟩ (.int .i32 1)) (some T) := only_setCell (only_refl w _) (.inl rfl) _
  have hl := run_call_load (P := Try.prog) Try.func30 (by kernel_rfl) (by kernel_rfl) (by kernel_rfl) .u32 (by kernel_rfl) hT1.c0
  have hp1 : (w.setCell ⟨T, 1, none⟩ (.int .i32 1)).cell? pl = some (.pointer (some ⟨T, 0, none⟩)) := (World.cell?_setCell_other _ ⟨T, 1, none⟩ pl _ (fun h => hpl (by rw [← h]))).trans hp
  have hnot : ∀ (x : Bool) (w : World), (Op.unary .not (.bool x)).run Try.prog w = .ok (.bool (!x)) w := fun _ _ => rfl
  go_enter_defers Try.func29, Try.ntmps29
  go_wp2_with (first | (go_at_call 31; refine (lock_free ⟨T, 1, none⟩ _ hT.c1 (hT.fz 1)).mono ?_; rintro e w' ⟨rfl, rfl⟩) | (go_at_call 28; go_in) | (go_at_call 27; refine (fill_calls pl T 0 1 _ hp1 hpl hT1).mono ?_; rintro e w2 ⟨rfl, hg2, hT2⟩))
  refine leaves_cons (f := 33) (args := #[.pointer (some ⟨T, 0, none⟩), .bool true]) (by simp) (by simp [go_sem]) ?_
  refine (store_deferred ⟨T, 0, none⟩ (.int .u32 0) .returning _ hT2.c0 (hT2.fz 0)).mono ?_
  rintro e u' w'' ⟨rfl, rfl, rfl⟩
  have hT3 := hT2.drew.set0 1
  have hg3 : w.grownBy (w2.drew.setCell ⟨T, 0, none⟩ (.int .u32 1)) (some T) := only_setCell (only_drew (hg1.trans hg2)) (.inl rfl) _
  refine leaves_cons (f := 32) (args := #[.pointer (some ⟨T, 1, none⟩)]) (by simp [settle]) (by simp [go_sem]) ?_
  refine (unlock_deferred ⟨T, 1, none⟩ _ _ hT3.c1 (hT3.fz 1)).mono ?_
  rintro e u' w'' ⟨rfl, rfl, rfl⟩
  have hT4 := hT3.set1 0
  have hg4 : w.grownBy ((w2.drew.setCell ⟨T, 0, none⟩ (.int .u32 1)).setCell ⟨T, 1, none⟩ (.int .i32 0)) (some T) := only_setCell hg3 (.inl rfl) _
  simp only [Leaves, settle]
  simp [results, Try.results29]
  exact ⟨hg4, hT4⟩

set_option maxRecDepth 100000 in
set_option maxHeartbeats 1600000 in
/-- '(*sync.Once).Do', not yet done. -/
theorem do_first (pl : Addr) (T : Nat) (w : World) (hp : w.cell? pl = some (.pointer (some ⟨T, 0, none⟩))) (hpl : pl.block ≠ T) (hT : Tbl w T 0 0 (tbUpto 0)) :
    Calls Try.prog 26 #[.pointer (some ⟨T, 0, none⟩), .func (.func 27) #[] #[.pointer (some pl)]] w fun e w' => e = .returned (.tuple #[]) ∧ w.grownBy w' (some T) ∧ Tbl w' T 1 0 (tbUpto 64) := by
  have hl := run_call_load (P := Try.prog) Try.func30 (by kernel_rfl) (by kernel_rfl) (by kernel_rfl) .u32 (by kernel_rfl) hT.c0
  have hnot : ∀ (x : Bool) (w : World), (Op.unary .not (.bool x)).run Try.prog w = .ok (.bool (!x)) w := fun _ _ => rfl
  go_enter Try.func26, Try.ntmps26
  go_wp2_with (first | (go_at_call 29; refine (slow_any pl T _ hp hpl hT).mono ?_; rintro e w2 ⟨rfl, hg2, hT2⟩) | (go_at_call 28; go_in))
  go_end0
  exact ⟨rfl, hg2, hT2⟩
/-- '(*sync.Once).Do', done already. -/
theorem do_done (T : Nat) (fv : Value) (f : Nat → Int) (w : World) (hT : Tbl w T 1 0 f) :
    Calls Try.prog 26 #[.pointer (some ⟨T, 0, none⟩), fv] w fun e w' => e = .returned (.tuple #[]) ∧ w = w' := by
  have hl := run_call_load (P := Try.prog) Try.func30 (by kernel_rfl) (by kernel_rfl) (by kernel_rfl) .u32 (by kernel_rfl) hT.c0
  have hnot : ∀ (x : Bool) (w : World), (Op.unary .not (.bool x)).run Try.prog w = .ok (.bool (!x)) w := fun _ _ => rfl
  go_enter Try.func26, Try.ntmps26
  go_wp2
  go_end0
  exact ⟨rfl, rfl⟩

theorem tbUpto_range (k j : Nat) : 0 ≤ tbUpto k j ∧ tbUpto k j ≤ k := by
  induction k with
  | zero => exact ⟨Int.le_refl _, Int.le_refl _⟩
  | succ k ih =>
    unfold tbUpto
    split <;> omega
/-- A letter's number, and is it one? -/
def tnum (c : Nat) : Int := tbUpto 64 c - 1
set_option maxRecDepth 100000 in
set_option maxHeartbeats 1600000 in
/-- '(*table).number'. -/
theorem number_calls (T : Nat) (d : Int) (hd : d = 0 ∨ d = 1) (c : Nat) (hc : c < 256) (w : World) (hT : Tbl w T d 0 (tbUpto (if d = 0 then 0 else 64))) :
    Calls Try.prog 23 #[.pointer (some ⟨T, 0, none⟩), .int .u8 (c : Int)] w fun e w' => e = .returned (.tuple #[.int .i64 (tnum c), .bool (decide (0 < tbUpto 64 c))]) ∧ w.grownBy w' (some T) ∧ Tbl w' T 1 0 (tbUpto 64) := by
  have hmf : ∀ (fn : Fn) (first cap : Array Value) (w : World), (Instr.makeFunc fn first cap).run Try.prog w = .ok (.func fn first cap) w := fun _ _ _ _ => rfl
  have hdo : Calls Try.prog 26 #[.pointer (some ⟨T, 0, none⟩), .func (.func 27) #[] #[.pointer (some ⟨w.heap.size, 0, none⟩)]] (w.alloc (.cells #[.pointer (some ⟨T, 0, none⟩)] 59)) fun e w' => e = .returned (.tuple #[]) ∧ (w.alloc (.cells #[.pointer (some ⟨T, 0, none⟩)] 59)).grownBy w' (some T) ∧ Tbl w' T 1 0 (tbUpto 64) := by
    rcases hd with rfl | rfl
    · exact do_first _ T _ (by simp) (by have := hT.lt; simp; omega) (hT.alloc _)
    · exact (do_done T _ _ _ (hT.alloc _)).mono fun e w' ⟨he, hw⟩ => ⟨he, by subst hw; exact only_refl _ _, by subst hw; exact hT.alloc _⟩
  have HDO := hid hdo
  clear hdo
  go_enter Try.func23, Try.ntmps23
  go_wp2_with (go_at_call 26; refine (HDO.out).mono ?_; rintro e w2 ⟨rfl, hg2, hT2⟩)
  have hbx : w2.cell? ⟨w.heap.size, 0, none⟩ = some (.pointer (some ⟨T, 0, none⟩)) := by
    have h0 : (w.alloc (.cells #[.pointer (some ⟨T, 0, none⟩)] 59)).cell? ⟨w.heap.size, 0, none⟩ = some (.pointer (some ⟨T, 0, none⟩)) := by simp
    refine (World.cell?_of_block (hg2.block w.heap.size (by simp) (fun e => ?_))).trans h0
    have := hT.lt
    injection e with e
    omega
  have hcj := hT2.cj c hc
  have hg : w.grownBy w2 (some T) := (only_alloc (only_refl w _) _).trans hg2
  have hr := tbUpto_range 64 c
  obtain ⟨v, hv⟩ : ∃ v, v = tbUpto 64 c := ⟨_, rfl⟩
  rw [← hv] at hcj hr
  have HV := hid hv
  obtain ⟨hr0, hr1⟩ := hr
  have hci : (c : Int) < 256 := by omega
  clear hv
  go_quiet (fail)
  go_wp2
  go_ret2
  refine ⟨?_, only_drewN hg _, hT2⟩
  rw [tnum, ← HV.out]
  rfl
end Go.Proofs.Ytbgncppjoaihlaa.Hand
