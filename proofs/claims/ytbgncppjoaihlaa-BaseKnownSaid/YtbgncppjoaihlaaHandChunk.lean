/-
  slices.Chunk over bytes: the iterator's contract, for every loop body that keeps what lay below n₀ and the two captured variables.
-/
import Derived.RangeFuncNested
import Derived.RangeFuncBound
import Derived.RangeFuncCalls
import Derived.RangeFuncLeaves
import Derived.Shelf.Abstract
import Derived.Shelf.RegionOpen
import Derived.WalkKit
import Derived.OwnWalkIn
import Derived.TacticsInMore
import Derived.LoopNIn
import Derived.LoopIn
import Derived.Outline
import Derived.Lib.Hide
import Derived.BigQuiet
import Derived.Deep.QuietTactic
import Derived.Maps.AppendAt
import Derived.Test.YtbgncppjoaihlaaHandSpec
import Derived.Test.YtbgncppjoaihlaaProg
namespace Go.Proofs.Ytbgncppjoaihlaa.Hand
open Go.RowKit Go.Shelf
attribute [local go_sem] Oper.semAt_some

/-- Rounds keep what lay below n₀, and two blocks. -/
def KeepTwo (n₀ B1 B2 : Nat) (W W' : World) : Prop := Below n₀ W W' ∧ W'.heap[B1]? = W.heap[B1]? ∧ W'.heap[B2]? = W.heap[B2]?
theorem KeepTwo.refl (n₀ B1 B2 : Nat) (W : World) : KeepTwo n₀ B1 B2 W W := ⟨Below.refl _ _, rfl, rfl⟩
theorem KeepTwo.trans {n₀ B1 B2 : Nat} {A B C : World} (h : KeepTwo n₀ B1 B2 A B) (k : KeepTwo n₀ B1 B2 B C) : KeepTwo n₀ B1 B2 A C :=
  ⟨h.1.trans k.1, k.2.1.trans h.2.1, k.2.2.trans h.2.2⟩

theorem grownBy_drewN (W : World) (n : Nat) : W.grownBy (W.drewN n) none := ⟨rfl, rfl, rfl, Nat.le_refl _, fun _ _ _ => rfl⟩
/-- What has come when k rounds are over. -/
theorem range_succ_list (k : Nat) : List.range (k + 1) = List.range k ++ [k] := List.range_succ

/-- The chunk number x of len bytes from off on. -/
def chunkV (b off len x : Nat) : Value := .slice (some ⟨b, off + 3 * x, none⟩) (min 3 (len - 3 * x)) (min 3 (len - 3 * x))

set_option maxRecDepth 100000 in
set_option maxHeartbeats 2000000 in
theorem chunk1_in (n : Nat) (hn : 1 ≤ n) (l Bs Bn n₀ : Nat) (A : Option Addr) (b off len cap N : Nat) (hN : N = (len + 2) / 3) (hA : 0 < len → A = some ⟨b, off, none⟩) (hreach : len ≤ 1099511627776) (hcap : len ≤ cap) (J Jx : List (Fin N) → World → Prop)
    (hY : ∀ pre x W, J pre W → pre.length < N → YieldAt Fence.wide (n - 1) Try.prog l #[chunkV b off len x.1] W fun e W' =>
      (e = .returned (.bool true) ∧ J (pre ++ [x]) W' ∧ KeepTwo n₀ Bs Bn W W') ∨ (e = .returned (.bool false) ∧ Jx (pre ++ [x]) W'))
    (W : World) (hJa : AbidesFrom W.heap.size J) (hBs : Boxed W Bs 22 (.slice A len cap)) (hBn : Boxed W Bn 3 (.int .i64 3)) (h0 : J [] W) :
    CallsIn Fence.wide n Try.prog 25 #[.func (.yield l) #[] #[], .pointer (some ⟨Bs, 0, none⟩), .pointer (some ⟨Bn, 0, none⟩)] W fun e W' => (∃ v, e = .returned v) ∧
      ((∃ ys : List (Fin N), ys.map Fin.val = List.range N ∧ J ys W') ∨ (∃ pre : List (Fin N), (∃ k, pre.map Fin.val = List.range k) ∧ Jx pre W')) := by
  refine callsIn_of_wp Try.func25 rfl trivial ?_ rfl
  simp only [Try.ntmps25, List.size_toArray, List.length_cons, List.length_nil, Nat.reduceAdd, Nat.reduceSub, Array.replicate_succ, Array.replicate_zero, List.push_toArray, List.append_toArray, List.nil_append, List.cons_append]
  gi_wp2
  gi_loopw [4] (fun i wr => ∃ (k m : Nat) (pre : List (Fin N)), m ≤ 3 * k ∧ 3 * k ≤ m ∧ 3 * k ≤ len + 2 ∧ i = .int .i64 m ∧ Hid (pre.map Fin.val = List.range k) ∧ J pre wr ∧ Boxed wr Bs 22 (.slice A len cap) ∧ Boxed wr Bn 3 (.int .i64 3))
    (fun i _ => len + 3 - (intOf i).toNat)
  case atStart => exact ⟨0, 0, [], by omega, by omega, by omega, rfl, Lib.hid rfl, h0, hBs, hBn⟩
  case round =>
    obtain ⟨k, m, pre, hm1, hm2, hk, rfl, hpre, hJs, hbs, hbn⟩ := hrel
    have hpl : pre.length = k := by have := congrArg List.length hpre.out; simpa using this
    have hpl' := Lib.hid hpl
    clear hpl
    have HN := Lib.hid hN
    clear hN
    have hcs := hbs.cell
    have hcn := hbn.cell
    have hdr : ∀ q, J pre (wr.drewN q) := fun q => hJa _ _ _ none hJs (grownBy_drewN wr q) (fun r e => by cases e)
    by_cases hlt : m < len
    · obtain rfl := hA (by omega)
      clear hA
      by_cases h3 : 3 ≤ len - m
      · have hv : chunkV b off len k = .slice (some ⟨b, off + m, none⟩) 3 3 := by
          have e : 3 * k = m := by omega
          unfold chunkV
          rw [e, Nat.min_eq_left h3]
        have h3' : (3 : Int) ≤ ((len - m : Nat) : Int) := by omega
        have h3c : m + 3 ≤ cap := by omega
        gi_wp2
        gi_quiet (fail)
        obtain ⟨fn, tmps, assign, body, hy, hR⟩ := hY _ ⟨k, by have := HN.out; omega⟩ (wr.drewN nq) (hdr nq) (by have := HN.out; have := hpl'.out; omega)
        rw [hv] at hy
        gi_wp2
        refine hR.mono ?_
        rintro e W3 (⟨rfl, hJ3, hk3⟩ | ⟨rfl, hJx3⟩)
        · have hbs3 : Boxed W3 Bs 22 (.slice (some ⟨b, off, none⟩) len cap) := hk3.2.1.trans hbs
          have hbn3 : Boxed W3 Bn 3 (.int .i64 3) := hk3.2.2.trans hbn
          have hcs3 := hbs3.cell
          have hcn3 := hbn3.cell
          gi_wp2
          go_roundw
          case rel => exact ⟨k + 1, m + 3, _, by omega, by omega, by omega, by simp, Lib.hid (by simp [hpre.out, range_succ_list]), hJ3, hbs3, hbn3⟩
          case measure => simp [intOf]; omega
        · gi_wp2
          refine bodyPost_ret (results_none rfl _ _ _) rfl ?_
          exact ⟨⟨_, rfl⟩, .inr ⟨_, ⟨k + 1, by simp [hpre.out, range_succ_list]⟩, hJx3⟩⟩
      · obtain ⟨r, rfl⟩ : ∃ r, len = m + r := ⟨len - m, by omega⟩
        have hv : chunkV b off (m + r) k = .slice (some ⟨b, off + m, none⟩) r r := by
          have e : 3 * k = m := by omega
          unfold chunkV
          rw [e, Nat.min_eq_right (by omega), Nat.add_sub_cancel_left]
        have h3' : ¬ (3 : Int) ≤ (r : Int) := by omega
        have h3c : m + r ≤ cap := by omega
        have hr0 : 0 < r := by omega
        gi_wp2
        gi_quiet (fail)
        obtain ⟨fn, tmps, assign, body, hy, hR⟩ := hY _ ⟨k, by have := HN.out; omega⟩ (wr.drewN nq) (hdr nq) (by have := HN.out; have := hpl'.out; omega)
        rw [hv] at hy
        gi_wp2
        refine hR.mono ?_
        rintro e W3 (⟨rfl, hJ3, hk3⟩ | ⟨rfl, hJx3⟩)
        · have hbs3 : Boxed W3 Bs 22 (.slice (some ⟨b, off, none⟩) (m + r) cap) := hk3.2.1.trans hbs
          have hbn3 : Boxed W3 Bn 3 (.int .i64 3) := hk3.2.2.trans hbn
          have hcs3 := hbs3.cell
          have hcn3 := hbn3.cell
          gi_wp2
          go_roundw
          case rel => exact ⟨k + 1, m + 3, _, by omega, by omega, by omega, by simp, Lib.hid (by simp [hpre.out, range_succ_list]), hJ3, hbs3, hbn3⟩
          case measure => simp [intOf]; omega
        · gi_wp2
          refine bodyPost_ret (results_none rfl _ _ _) rfl ?_
          exact ⟨⟨_, rfl⟩, .inr ⟨_, ⟨k + 1, by simp [hpre.out, range_succ_list]⟩, hJx3⟩⟩
    · gi_wp2
      go_end0
      have hkk : k = N := by have := HN.out; omega
      subst hkk
      exact ⟨⟨_, rfl⟩, .inl ⟨_, hpre.out, hJs⟩⟩


set_option maxHeartbeats 1000000 in
/-- slices.Chunk(s, 3): both parameters lie in new variables, which the closure captures. -/
theorem chunk_in (n : Nat) (A : Option Addr) (len cap : Nat) (w : World) :
    CallsIn Fence.wide n Try.prog 20 #[.slice A len cap, .int .i64 3] w fun e w' => e = .returned (.func (.func 25) #[] #[.pointer (some ⟨w.heap.size, 0, none⟩), .pointer (some ⟨w.heap.size + 1, 0, none⟩)]) ∧
      w' = (w.alloc (.cells #[.slice A len cap] 22)).alloc (.cells #[.int .i64 3] 3) := by
  refine callsIn_of_wp Try.func20 rfl trivial ?_ rfl
  simp only [Try.ntmps20, List.size_toArray, List.length_cons, List.length_nil, Nat.reduceAdd, Nat.reduceSub, Array.replicate_succ, Array.replicate_zero, List.push_toArray, List.append_toArray, List.nil_append, List.cons_append]
  have hmf : ∀ (fn : Fn) (first cap : Array Value) (w : World), (Instr.makeFunc fn first cap).run Try.prog w = .ok (.func fn first cap) w := fun _ _ _ _ => rfl
  gi_wp2
  go_ret
  exact ⟨rfl, rfl⟩

theorem keepTwo_t {n₀ B1 B2 : Nat} {A B C : World} (h : KeepTwo n₀ B1 B2 A B) (k : KeepTwo n₀ B1 B2 B C) : KeepTwo n₀ B1 B2 A C := h.trans k
theorem keepTwo_b {n₀ B1 B2 : Nat} {w : World} (h0 : n₀ ≤ w.heap.size) (h1 : B1 < w.heap.size) (h2 : B2 < w.heap.size) (W : World) (l : Nat) (o o' : Obj) (hl : w.heap.size ≤ l) (ho : W.heap[l]? = some o) (hc : o.isCells = false) (hk : o.isWalk = false) : KeepTwo n₀ B1 B2 W (W.putObj l o') :=
  ⟨belowK_b (w := w) h0 W l o o' hl ho hc hk, World.putObj_heap_other (by omega), World.putObj_heap_other (by omega)⟩

/-- slices.Chunk(s, 3) as what a loop ranges over: its chunks, by their numbers; or a part of them. -/
theorem chunk_stops (n : Nat) (hn : 1 ≤ n) (Bs Bn n₀ : Nat) (A : Option Addr) (b off len cap N : Nat) (hN : N = (len + 2) / 3) (hA : 0 < len → A = some ⟨b, off, none⟩) (hreach : len ≤ 1099511627776) (hcap : len ≤ cap) (w : World) (hBs : Boxed w Bs 22 (.slice A len cap)) (hBn : Boxed w Bn 3 (.int .i64 3)) :
    SeqStopsK Fence.wide n Try.prog 25 #[.pointer (some ⟨Bs, 0, none⟩), .pointer (some ⟨Bn, 0, none⟩)] (fun x : Fin N => #[chunkV b off len x.1]) (KeepTwo n₀ Bs Bn) (fun ys => ys.map Fin.val = List.range N) (fun pre => ∃ k, pre.map Fin.val = List.range k) N w := fun l J Jx W hW hJ _ hY h0 =>
  chunk1_in n hn l Bs Bn n₀ A b off len cap N hN hA hreach hcap J Jx hY W hJ ((hW.block _ hBs.lt).trans hBs) ((hW.block _ hBn.lt).trans hBn) h0

end Go.Proofs.Ytbgncppjoaihlaa.Hand
