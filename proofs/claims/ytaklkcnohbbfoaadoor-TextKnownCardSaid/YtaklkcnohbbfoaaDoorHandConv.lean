/-
  '[]byte(s)': the new row, as what is only read. No walk.
-/
import Derived.Test.YtaklkcnohbbfoaaDoorProg
import Derived.Lib.ConvBytes
import Derived.Laws.AppendOwn
import Derived.Test.YtaklkcnohbbfoaaDoorWKit
namespace Go.Proofs.YtaklkcnohbbfoaaDoor.Hand
open Go.RowKit Go.Proofs.YtaklkcnohbbfoaaDoorW.PrintWords Go.Proofs.YtaklkcnohbbfoaaDoorW.PrintMore
set_option linter.unusedVariables false
set_option linter.unusedSimpArgs false

def gosem_bytesOf.f (s : ByteArray) : Option (List Int) := if s.size ≤ 140737488351232 then some (bytesOf s) else none
theorem bytesWorld_below (w : World) (e : TypeId) (s : ByteArray) : Below w.heap.size w (Lib.bytesWorld w e s) := by
  exact ⟨rfl, rfl, rfl, by rw [Lib.bytesWorld_size]; omega, fun k hk => Lib.bytesWorld_at_old w e s k hk⟩
section
variable {P : Program} {ops : Array Oper} {rest : List Oper} {o : Oper} {a : Act} {Q : Exit → Act → World → Prop}
/-- The operation is a conversion. -/
theorem gate_conv {s t : TypeId} {x : Operand} {W : World} (_ho : o.op = .convert s t x) (h : wpList P ops Q (o :: rest) a W) : wpList P ops Q (o :: rest) a W := h
theorem conv_event {W : World} {s : ByteArray} {t : List Int} (hgd : o.guard = none) (hf : gosem_bytesOf.f s = some t)
    (hrun : (execOp a.eval o).run P W = .ok (.value (.slice (some ⟨W.heap.size, 0, none⟩) s.size (grownCap W s.size 0 5))) (Lib.bytesWorld W 5 s))
    (h : ∀ v w1, Kd.V (Kd.int .u8) 5 w1 W.heap.size (fun k => k = W.heap.size) v t → Below W.heap.size W w1 → wpList P ops Q rest (a.put o.dst v) w1) : wpList P ops Q (o :: rest) a W := by
  unfold gosem_bytesOf.f at hf
  split at hf
  · obtain rfl := Option.some.inj hf
    refine Kd.event_run hgd hrun (h _ _ ?_ (bytesWorld_below W 5 s))
    have hl : (bytesOf s).length = s.size := bytesOf_length s
    refine ⟨some ⟨W.heap.size, 0, none⟩, grownCap W s.size 0 5, by rw [hl], by rw [hl]; exact grownCap_ge W s.size 0 5, ?_⟩
    intro W' hW
    have hb := hW W.heap.size rfl (by rw [Lib.bytesWorld_size]; omega)
    refine ⟨rfl, by omega, fun _ => ⟨_, rfl, fun j p hp => ⟨[.int .u8 p], rfl, rfl, fun i u hu => ?_⟩⟩⟩
    have hi : i = 0 := by
      rcases i with _ | i
      · rfl
      · simp at hu
    subst hi
    obtain ⟨hj, rfl⟩ := List.getElem?_eq_some_iff.1 hp
    obtain rfl : Value.int .u8 ((bytesOf s)[j]) = u := by simpa using hu
    have hc := Lib.bytesWorld_cell W 5 s j (by omega)
    have e1 : (bytesOf s)[j] = (((s.data.toList.getD j 0).toNat : Nat) : Int) := by
      have hj2 : j < s.data.toList.length := by rw [data_length]; omega
      simp only [bytesOf, List.getElem_map, List.getD_eq_getElem?_getD, List.getElem?_eq_getElem hj2, Option.getD_some]
    rw [e1]
    have hcell : W'.cell? ⟨W.heap.size, j, none⟩ = (Lib.bytesWorld W 5 s).cell? ⟨W.heap.size, j, none⟩ := by simp only [World.cell?, hb]
    have ha : (⟨W.heap.size, 0, none⟩ : Addr).add (j * 1 + 0) = ⟨W.heap.size, j, none⟩ := by simp [Addr.add]; exact fun h => h.symm
    rw [show (Kd.int .u8).sz = 1 from rfl, ha, hcell, hc]
  · cases hf
end
end Go.Proofs.YtaklkcnohbbfoaaDoor.Hand
