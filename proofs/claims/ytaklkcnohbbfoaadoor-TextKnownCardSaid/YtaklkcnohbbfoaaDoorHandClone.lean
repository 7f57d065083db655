/-
  slices.Clone: the walk; small laws for walks by hand. (Turned from the wire chapter's.)
-/
import Derived.Test.YtaklkcnohbbfoaaDoorHandConv
import Derived.WalkKit
import Derived.WalkSpells
import Derived.Outline
import Derived.Lib.Hide
import Derived.OwnWalk
import Derived.ArgAppend
import Derived.Maps.AppendAt
namespace Go.Proofs.YtaklkcnohbbfoaaDoor.Hand
open Go.RowKit Go.Proofs.YtaklkcnohbbfoaaDoorW.PrintWords

theorem hinfo5 : (Tryd.prog.info? 5).map (fun i => (i.zero, i.size, i.bytes)) = some (some (.int .u8 0), 1, 1) := by kernel_rfl
theorem hid {p : Prop} (h : p) : Hid p := h
theorem nums_length (k : IntKind) (l : List Int) : (nums k l).length = l.length := by simp [nums]
theorem nums_one (k : IntKind) (l : List Int) : ∀ u ∈ nums k l, u.oneCell' = true := by
  intro u hu
  obtain ⟨x, _, rfl⟩ := List.mem_map.1 hu
  rfl
theorem nums_append (k : IntKind) (a b : List Int) : nums k (a ++ b) = nums k a ++ nums k b := by simp [nums]
theorem cells_of_C {w : World} {A : Option Addr} {l : List Int} {k : IntKind} (h : (Kd.int k).C w A l.length l) : ∀ b, A = some b → ∀ j u, (nums k l)[j]? = some u → w.cell? (b.add j) = some u := by
  rintro b rfl j u hu
  have hj : j < l.length := by
    have := (List.getElem?_eq_some_iff.1 hu).1
    simpa [nums] using this
  have := Kd.foot_int h (j : Int) (by omega) (by omega)
  rw [Int.toNat_natCast] at this
  rw [this, ← hu]
  simp [nums, rd, List.getElem?_map, List.getD_eq_getElem?_getD, List.getElem?_eq_getElem hj]
def slices_Clone_byte_byte.f (l0 : List Int) : Option (List Int) := if l0.length ≤ 140737488300000 then some l0 else none
theorem came_alloc {w : World} {A : Option Addr} {xs : List Value} {o : Obj} (h : ∀ b, A = some b → ∀ j u, xs[j]? = some u → w.cell? (b.add j) = some u) : ∀ b, A = some b → ∀ j u, xs[j]? = some u → (w.alloc o).cell? (b.add j) = some u :=
  fun b e j u hj => pw_cell_below (below_alloc (Below.refl _ _) _) (h b e j u hj)
theorem own_empty (w : World) : (w.alloc (.cells #[] 5)).ownsRow w.heap.size 5 1 (.slice (some ⟨w.heap.size, 0, none⟩) 0 0) 0 [] :=
  ⟨rfl, .inr ⟨w.heap.size, 0, #[], rfl, Nat.le_refl _, heap_alloc_new w _, Nat.le_refl _, by simp [maxLen], rfl, rfl⟩⟩
theorem below_new {w w1 : World} {o : Obj} (h : (w.alloc o).grownBy w1 none) : Below w.heap.size w w1 :=
  ((Below.refl _ w).alloc (Nat.le_refl _) o).grown h (by simp) (fun _ e => by cases e)
set_option maxRecDepth 100000 in
set_option maxHeartbeats 1000000 in
theorem slices_Clone_byte_byte.calls (A0 : Option Addr) (c0 : Nat) (l0 : List Int) (r : List Int) (w : World) (hr0 : Kd.C (Kd.int .u8) w A0 l0.length l0) (hc0 : l0.length ≤ c0) (h : slices_Clone_byte_byte.f l0 = some r) :
    Calls Tryd.prog 38 #[.slice A0 l0.length c0] w fun e w' => ∃ v0_ : Value, e = .returned v0_ ∧ Kd.R (Kd.int .u8) 5 w' w.heap.size (fun _ => True) v0_ r ∧ Below w.heap.size w w' := by
  unfold slices_Clone_byte_byte.f at h
  split at h
  · rename_i hl
    obtain rfl := Option.some.inj h
    obtain ⟨i0, hi, hz0, hz1, hz2⟩ := info_parts hinfo5
    have hcells := hid (cells_of_C hr0)
    cases A0 with
    | none =>
      have hl0 : l0 = [] := by
        rcases l0 with _ | ⟨x, l0⟩
        · rfl
        · obtain ⟨_, e, _⟩ := hr0.2.2 (by simp)
          cases e
      subst hl0
      have heq : ∀ (w : World) (c : Nat), (binOp .eql 22 (.slice none 0 c) (.slice none 0 0)).run Tryd.prog w = .ok (.bool true) w := fun w c => Lib.run_eql_slice_nil (P := Tryd.prog) w 22 5 none 0 c 0 0 Tryd.underlying22
      go_enter Tryd.func38, Tryd.ntmps38
      go_wp2
      go_ret
      exact ⟨_, rfl, Kd.R_nil _ _ _ _ _, Below.refl _ _⟩
    | some ad =>
      have heq : ∀ (w : World) (n c : Nat), (binOp .eql 22 (.slice (some ad) n c) (.slice none 0 0)).run Tryd.prog w = .ok (.bool false) w := fun w n c => Lib.run_eql_slice_nil (P := Tryd.prog) w 22 5 (some ad) n c 0 0 Tryd.underlying22
      go_enter Tryd.func38, Tryd.ntmps38
      go_wp2_with (at_builtin; refine wpList_append_own _ rfl _ _ 22 rfl w.heap.size 5 i0 (.int .u8 0) 1 1 Tryd.underlying22 hi hz0 hz1 hz2 rfl (by decide) (.slice (some ⟨w.heap.size, 0, none⟩) 0 0) 0 [] rfl (own_empty w) ad l0.length c0 (nums .u8 l0) rfl (by rw [nums_length]; omega) (came_alloc hcells.out _ rfl) (nums_one _ _) (by simp only [maxLen]; omega) (by omega) (by simp) ?_; intro v' w1 hown hgrow _)
      go_ret
      exact ⟨v', rfl, Kd.R_of_own (enc := Value.int .u8) (h1 := fun _ => rfl) (by rw [Nat.zero_add, List.nil_append] at hown; exact hown) (fun _ _ => trivial), ((Below.refl _ w).alloc (Nat.le_refl _) _).grown hgrow (by simp) (fun k hk => by simp [Value.ownBlock] at hk; omega)⟩
  · cases h
end Go.Proofs.YtaklkcnohbbfoaaDoor.Hand
