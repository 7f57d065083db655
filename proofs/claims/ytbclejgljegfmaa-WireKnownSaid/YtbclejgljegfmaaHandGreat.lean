/-
  slices.Backward over bytes, and wire.great: the number of bytes, the lowest one first.
-/
import Derived.Test.YtbclejgljegfmaaAp
import Derived.RangeFuncNested
import Derived.RangeFuncBound
import Derived.RangeFuncCalls
import Derived.RangeFuncLeaves
import Derived.Shelf.Abstract
import Derived.Shelf.RegionOpen
import Derived.OwnWalkIn
import Derived.TacticsInMore
import Derived.LoopNIn
import Derived.LoopIn
import Derived.Test.YtbclejgljegfmaaHandNum
set_option maxRecDepth 100000
set_option maxHeartbeats 2000000
namespace Go.Proofs.Ytbclejgljegfmaa.Hand
open Go.RowKit Go.Shelf Go.Proofs.YtbclejgljegfmaaW.PrintWords
attribute [local go_sem] Oper.semAt_some

/-- Rounds keep what lay below n₀, and a block. -/
def KeepOne (n₀ B1 : Nat) (W W' : World) : Prop := Below n₀ W W' ∧ W'.heap[B1]? = W.heap[B1]?
theorem keepOne_t {n₀ B1 : Nat} {A B C : World} (h : KeepOne n₀ B1 A B) (k : KeepOne n₀ B1 B C) : KeepOne n₀ B1 A C := ⟨h.1.trans k.1, k.2.trans h.2⟩
theorem keepOne_b {n₀ B1 : Nat} {w : World} (h0 : n₀ ≤ w.heap.size) (h1 : B1 < w.heap.size) (W : World) (l : Nat) (o o' : Obj) (hl : w.heap.size ≤ l) (ho : W.heap[l]? = some o) (hc : o.isCells = false) (hk : o.isWalk = false) : KeepOne n₀ B1 W (W.putObj l o') :=
  ⟨belowK_b (w := w) h0 W l o o' hl ho hc hk, World.putObj_heap_other (by omega)⟩
/-- The round number k is told of the byte at m - k - 1. -/
def bkV (l : List Int) (k : Nat) : Array Value := #[.int .i64 ((l.length - 1 - k : Nat) : Int), .int .u8 (rd l ((l.length - 1 - k : Nat) : Int))]

theorem back1_in (n : Nat) (hn : 1 ≤ n) (ly Bs n₀ : Nat) (A : Option Addr) (l : List Int) (cap : Nat) (hl : l.length ≤ 1099511627776) (J Jx : List (Fin l.length) → World → Prop)
 (hY : ∀ pre x W, J pre W → pre.length < l.length → YieldAt Fence.wide (n - 1) Try.prog ly (bkV l x.1) W fun e W' =>
  (e = .returned (.bool true) ∧ J (pre ++ [x]) W' ∧ KeepOne n₀ Bs W W') ∨ (e = .returned (.bool false) ∧ Jx (pre ++ [x]) W'))
 (W : World) (hBs : Boxed W Bs 22 (.slice A l.length cap)) (hc : ∀ W1, Below n₀ W W1 → (Kd.int .u8).C W1 A l.length l) (h0 : J [] W) :
 CallsIn Fence.wide n Try.prog 60 #[.func (.yield ly) #[] #[], .pointer (some ⟨Bs, 0, none⟩)] W fun e W' => (∃ v, e = .returned v) ∧
  ((∃ ys : List (Fin l.length), ys.map Fin.val = List.range l.length ∧ J ys W') ∨ (∃ pre : List (Fin l.length), (∃ k, pre.map Fin.val = List.range k) ∧ Jx pre W')) := by
 refine callsIn_of_wp Try.func60 rfl trivial ?_ rfl
 simp only [Try.ntmps60, List.size_toArray, List.length_cons, List.length_nil, Nat.reduceAdd, Nat.reduceSub, Array.replicate_succ, Array.replicate_zero, List.push_toArray, List.append_toArray, List.nil_append, List.cons_append]
 have hcs0 := hBs.cell
 have HC := hid hc
 clear hc
 gi_wp2
 gi_loopw [3] (fun i wr => ∃ (k : Nat) (j : Int) (pre : List (Fin l.length)), i = .int .i64 j ∧ -1 ≤ j ∧ j < l.length ∧ Hid (j = (l.length : Int) - 1 - k) ∧ Hid (pre.map Fin.val = List.range k) ∧ J pre wr ∧ Boxed wr Bs 22 (.slice A l.length cap) ∧ Below n₀ W wr)
  (fun i _ => (intOf i + 1).toNat)
 case atStart => exact ⟨0, (l.length : Int) - 1, [], by go_num, by omega, by omega, hid (by omega), hid rfl, h0, hBs, Below.refl _ _⟩
 case round =>
  obtain ⟨k, j, pre, rfl, hj1, hj2, hjk, hpre, hJs, hbs, hBw⟩ := hrel
  have hcs := hbs.cell
  by_cases hj : 0 ≤ j
  case neg =>
   have hjl : j < 0 := by omega
   gi_wp2
   go_end0
   have hkk : k = l.length := by have := hjk.out; omega
   subst hkk
   exact ⟨⟨_, rfl⟩, .inl ⟨_, hpre.out, hJs⟩⟩

  obtain ⟨q, rfl⟩ := Int.eq_ofNat_of_zero_le hj
  have hq : q < l.length := by omega
  have hCr := HC.out _ hBw
  obtain ⟨ad, rfl, -⟩ := hCr.2.2 (by omega)
  obtain ⟨x, hx⟩ : ∃ x, x = rd l (q : Int) := ⟨_, rfl⟩
  have hcell : wr.cell? (ad.add q) = some (.int .u8 x) := by
   have := Kd.foot_int hCr (q : Int) (by omega) (by omega)
   rw [Int.toNat_natCast, ← hx] at this
   exact this
  have hpl : Hid (pre.length = k) := hid (by have := congrArg List.length hpre.out; simpa using this)
  have hv : bkV l k = #[.int .i64 (q : Int), .int .u8 x] := by
   have e : l.length - 1 - k = q := by have := hjk.out; omega
   unfold bkV
   rw [e, hx]
  obtain ⟨fn, tmps, assign, body, hy, hR⟩ := hY _ ⟨k, by have := hjk.out; omega⟩ wr hJs (by have := hjk.out; have := hpl.out; omega)
  rw [hv] at hy
  clear hx hv hCr
  gi_wp2
  refine hR.mono ?_
  rintro e W3 (⟨rfl, hJ3, hk3⟩ | ⟨rfl, hJx3⟩)
  ·have hbs3 : Boxed W3 Bs 22 (.slice (some ad) l.length cap) := hk3.2.trans hbs
   gi_wp2
   go_roundw
   case rel => exact ⟨k + 1, (q : Int) - 1, _, by go_num, by omega, by omega, hid (by have := hjk.out; omega), hid (by simp [hpre.out, List.range_succ]), hJ3, hbs3, hBw.trans hk3.1⟩
   case measure => simp [intOf]
  ·gi_wp2
   refine bodyPost_ret (results_none rfl _ _ _) rfl ?_
   exact ⟨⟨_, rfl⟩, .inr ⟨_, ⟨k + 1, by simp [hpre.out, List.range_succ]⟩, hJx3⟩⟩
/-- slices.Backward(s): the parameter lies in a new variable, which the closure captures. -/
theorem back_in (n : Nat) (A : Option Addr) (len cap : Nat) (w : World) :
    CallsIn Fence.wide n Try.prog 59 #[.slice A len cap] w fun e w' => e = .returned (.func (.func 60) #[] #[.pointer (some ⟨w.heap.size, 0, none⟩)]) ∧ w' = w.alloc (.cells #[.slice A len cap] 22) := by
  refine callsIn_of_wp Try.func59 rfl trivial ?_ rfl
  simp only [Try.ntmps59, List.size_toArray, List.length_cons, List.length_nil, Nat.reduceAdd, Nat.reduceSub, Array.replicate_succ, Array.replicate_zero, List.push_toArray, List.append_toArray, List.nil_append, List.cons_append]
  have hmf : ∀ (fn : Fn) (first cap : Array Value) (w : World), (Instr.makeFunc fn first cap).run Try.prog w = .ok (.func fn first cap) w := fun _ _ _ _ => rfl
  gi_wp2
  go_ret
  exact ⟨rfl, rfl⟩

/-- slices.Backward(s) as what a loop ranges over. -/
theorem kG (n : Nat) (hn : 1 ≤ n) (Bs n₀ : Nat) (A : Option Addr) (l : List Int) (cap : Nat) (hl : l.length ≤ 1099511627776) (w : World) (hw : n₀ ≤ w.heap.size) (hBs : Boxed w Bs 22 (.slice A l.length cap)) (hc : ∀ W1, Below n₀ w W1 → (Kd.int .u8).C W1 A l.length l) :
    SeqStopsK Fence.wide n Try.prog 60 #[.pointer (some ⟨Bs, 0, none⟩)] (fun x : Fin l.length => bkV l x.1) (KeepOne n₀ Bs) (fun ys => ys.map Fin.val = List.range l.length) (fun pre => ∃ k, pre.map Fin.val = List.range k) l.length w := fun ly J Jx W hW _ _ hY h0 =>
  back1_in n hn ly Bs n₀ A l cap hl J Jx hY W ((hW.block _ hBs.lt).trans hBs) (fun W1 h1 => hc W1 ((hW.mono hw).trans h1)) h0

/-- What has come of the bytes, from the end on. -/
def gfold (l : List Int) (ks : List Nat) : Int := ks.foldl (fun n k => n * 256 + rd l ((l.length - 1 - k : Nat) : Int)) 0
theorem ic (l : List Int) (ks : List Nat) (k : Nat) : gfold l (ks ++ [k]) = gfold l ks * 256 + rd l ((l.length - 1 - k : Nat) : Int) := by simp [gfold]
theorem iI (l : List Int) : ∀ m, m ≤ l.length → gfold l (List.range m) = gr (l.drop (l.length - m))
  | 0, _ => by simp [gfold, gr]
  | m + 1, h => by
    rw [List.range_succ, ic, iI l m (by omega), rdn_at (show l.length - (m + 1) < l.length by omega), gr, show l.length - (m + 1) + 1 = l.length - m by omega, show l.length - 1 - m = l.length - (m + 1) by omega]
    omega
theorem k9 {l : List Int} (hB : isB l = true) : ∀ ks : List Nat, 0 ≤ gfold l ks ∧ gfold l ks < 256 ^ ks.length := by
 intro ks
 induction hn : ks.length generalizing ks with
 | zero =>
  obtain rfl := List.eq_nil_of_length_eq_zero hn
  simp [gfold]
 | succ n ih =>
  rcases List.eq_nil_or_concat ks with rfl | ⟨ks, k, rfl⟩
  ·simp at hn
  ·rw [List.concat_eq_append] at hn ⊢
   rw [ic]
   have h := ih ks (by simpa using hn)
   have hb := isB_rd hB (l.length - 1 - k)
   rw [Int.pow_succ]
   omega
theorem or_low {n c : Int} (h0 : 0 ≤ n) (h1 : n < 256 ^ 7) (h2 : 0 ≤ c) (h3 : c ≤ 255) : bits .or .u64 (IntKind.u64.wrap (n * 256)) c = n * 256 + c := by
  rw [eM (by omega) (by omega)]
  obtain ⟨n, rfl⟩ := Int.eq_ofNat_of_zero_le h0
  obtain ⟨c, rfl⟩ := Int.eq_ofNat_of_zero_le h2
  have e : ((n : Int) * 256) = ((n * 256 : Nat) : Int) := by omega
  rw [e, jd _ _ (by omega) (by omega)]
  have := Nat.shiftLeft_add_eq_or_of_lt (i := 8) (b := c) (by omega) n
  rw [Nat.shiftLeft_eq] at this
  rw [show n * 256 = n * 2 ^ 8 from rfl, ← this]
  omega

theorem great_in (n : Nat) (hn : 3 ≤ n) (A : Option Addr) (l : List Int) (cap : Nat) (w : World) (hl : l.length ≤ 8) (hB : isB l = true) (hc : ∀ W1, Below w.heap.size w W1 → (Kd.int .u8).C W1 A l.length l) :
    CallsIn Fence.wide n Try.prog 56 #[.slice A l.length cap] w fun e w' => e = .returned (.int .u64 (gr l)) ∧ Below w.heap.size w w' := by
  have h1 : 1 ≤ n := by omega
  refine callsIn_of_wp_marks Try.func56 rfl trivial ?_ rfl
  simp only [Try.ntmps56, List.size_toArray, List.length_cons, List.length_nil, Nat.reduceAdd, Nat.reduceSub, Array.replicate_succ, Array.replicate_zero, List.push_toArray, List.append_toArray, List.nil_append, List.cons_append]
  have hzv : ∀ w, (zeroValue 23).run Try.prog w = .ok (.int .u64 0) w := fun w => p16z
  gi_wp2_with (first | (refine ⟨trivial, ?_⟩; gi_at_call 59; refine (back_in (n - 1) _ _ _ _).mono ?_; rintro e w' ⟨rfl, rfl⟩))
  obtain ⟨W0, hW0⟩ : ∃ W0, W0 = (w.alloc (.cells #[.int .u64 0] 23)).alloc (.cells #[.slice A l.length cap] 22) := ⟨_, rfl⟩
  rw [← hW0]
  have bN : Boxed W0 w.heap.size 23 (.int .u64 0) := by rw [hW0]; exact (Boxed.new w 23 (.int .u64 0)).alloc _
  have bS : Boxed W0 (w.heap.size + 1) 22 (.slice A l.length cap) := by
    have := Boxed.new (w.alloc (.cells #[.int .u64 0] 23)) 22 (.slice A l.length cap)
    rw [World.size_alloc] at this
    rw [hW0]; exact this
  have hB0 : Below w.heap.size w W0 := by rw [hW0]; exact ((Below.refl w.heap.size w).alloc (Nat.le_refl _) _).alloc (by simp) _
  have hs0 : W0.heap.size = w.heap.size + 2 := by rw [hW0]; simp
  have hc0 : ∀ W1, Below w.heap.size W0 W1 → (Kd.int .u8).C W1 A l.length l := fun W1 h => hc W1 (hB0.trans h)
  clear hW0 hc
  refine wpIn_rangeFunc_ownG (α := Fin l.length) rfl h1 (gf := 60) (lb := #[.pointer (some ⟨w.heap.size + 1, 0, none⟩)]) rfl trivial (enters_of Try.func60 p16z rfl)
    (kG (n - 1) (by omega) (w.heap.size + 1) w.heap.size A l cap (by omega) W0 (by omega) bS hc0) keepOne_t (keepOne_b (by omega) (by omega)) (Below.refl _ _) (fun _ => rfl)
    (fun pre W => Boxed W w.heap.size 23 (.int .u64 (gfold l (pre.map Fin.val))) ∧ Boxed W (w.heap.size + 1) 22 (.slice A l.length cap) ∧ Below w.heap.size w W)
    (fun _ _ _ => False)
    (OwnFrom.and (Own.from (boxed_own _ _ (fun pre : List (Fin l.length) => .int .u64 (gfold l (pre.map Fin.val)))) _) (OwnFrom.and (Own.from (boxed_own _ _ (fun _ => _)) _) (ownFrom_below (Nat.le_refl _) (by omega))))
    (fun _ _ _ _ _ hs _ _ => hs)
    ⟨by simpa [gfold] using bN, bS, hB0⟩
    (fun x => { tmps := #[.slice A l.length cap, undef, .pointer (some ⟨w.heap.size, 0, none⟩), undef, .int .u8 (rd l ((l.length - 1 - x.1 : Nat) : Int)), .slice A l.length cap, .func (.func 60) #[] #[.pointer (some ⟨w.heap.size + 1, 0, none⟩)],
        .int .i64 ((l.length - 1 - x.1 : Nat) : Int), .int .u8 (rd l ((l.length - 1 - x.1 : Nat) : Int)), undef, undef, undef, undef, undef, undef], defers := [] }) ?assign ?body ?done ?stop
  case assign =>
    intro ly x W K hK
    simp only [bkV]
    gi_wp2
    exact hK
  case body =>
    rintro ly pre x W ⟨hb, hs, hBw⟩ hlt
    obtain ⟨c, hc⟩ : ∃ c, c = rd l ((l.length - 1 - x.1 : Nat) : Int) := ⟨_, rfl⟩
    have hcb := isB_rd hB (l.length - 1 - x.1)
    rw [← hc] at hcb ⊢
    obtain ⟨hc0, hc1⟩ := hcb
    obtain ⟨m, hm⟩ : ∃ m, m = gfold l (pre.map Fin.val) := ⟨_, rfl⟩
    have hg := k9 hB (pre.map Fin.val)
    rw [← hm] at hb hg
    have hm7 : m < 256 ^ 7 := by
      have h7 : (256 : Int) ^ (pre.map Fin.val).length ≤ 256 ^ 7 := by
        have : (256 : Nat) ^ (pre.map Fin.val).length ≤ 256 ^ 7 := Nat.pow_le_pow_right (by omega) (by rw [List.length_map]; omega)
        exact_mod_cast this
      omega
    have hor := or_low hg.1 hm7 hc0 hc1
    have hm0 := hg.1
    have hst : gfold l ((pre ++ [x]).map Fin.val) = m * 256 + c := by rw [List.map_append, List.map_singleton, ic, ← hm, ← hc]
    have HST := hid hst
    clear hm hc hg hst hm7
    have hcell := hb.cell
    have hfroz := hb.frozen
    gi_wp2
    have hk : Below w.heap.size W (W.setCell ⟨w.heap.size, 0, none⟩ (.int .u64 (m * 256 + c))) := (Below.refl _ W).setCell (p := ⟨w.heap.size, 0, none⟩) (Nat.le_refl _) _
    exact ⟨(KeepsOthers.setCell W ⟨w.heap.size, 0, none⟩ _).from _, ⟨hk, (hs.other (by omega) _).trans hs.symm⟩, by rw [HST.out]; exact hb.set _, hs.other (by omega) _, hBw.trans hk⟩
  case done =>
    rintro D ys W hD hys ⟨hb, hs, hBw⟩ hK
    have hL : gfold l (ys.map Fin.val) = gr l := by rw [hys, iI l _ (Nat.le_refl _), Nat.sub_self, List.drop_zero]
    rw [hL] at hb
    have hcell := hb.cell
    have hfroz := hb.frozen
    gi_wp2
    have hK' := (KeepsOthers.setCell W ⟨w.heap.size, 0, none⟩ (.int .u64 (gr l))).same D _ hK rfl
    refine ⟨by simp, .inl ⟨_, _, rfl, run_takeDeferred hK', ?_⟩⟩
    have hb2 := hb.set (.int .u64 (gr l))
    have hn5 := cell_kept hb2.cell (grownBy_putObj' _ D (.deferred none)) (fun r e => by cases e; exact ⟨_, hK', rfl⟩)
    exact ⟨.int .u64 (gr l), by simp [results, Try.f56, go_sem, hn5], rfl, ((hBw.setCell (p := ⟨w.heap.size, 0, none⟩) (Nat.le_refl _) _)).trans (belowK_b (w := w) (Nat.le_refl _) _ D _ _ (by omega) hK' rfl rfl)⟩
  case stop =>
    rintro D c pre W _ _ h _
    exact h.elim
theorem ka (A : Option Addr) (l : List Int) (cap : Nat) (w : World) (hl : l.length ≤ 8) (hB : isB l = true) (hc : ∀ W1, Below w.heap.size w W1 → (Kd.int .u8).C W1 A l.length l) :
    Calls Try.prog 56 #[.slice A l.length cap] w fun e w' => e = .returned (.int .u64 (gr l)) ∧ Below w.heap.size w w' :=
  (callsIn_wide (n := 3)).1 (great_in 3 (by omega) A l cap w hl hB hc)
end Go.Proofs.Ytbclejgljegfmaa.Hand
