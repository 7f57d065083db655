/-
  The reference's node, as a value. (Printed.)
-/
import Derived.Test.YtodnggilomanbaaGreatDoorAp
import Derived.Test.YtodnggilomanbaaGreatDoorPAllx0
import Derived.Test.YtodnggilomanbaaGreatDoorHandStep
section
namespace Go.Proofs.YtodnggilomanbaaGreatDoor.PAll
open Go.RowKit Go.Proofs.YtodnggilomanbaaGreatDoorW.PrintWords Go.Proofs.YtodnggilomanbaaGreatDoorW.PrintLast Go.Proofs.YtodnggilomanbaaGreatDoorW.PrintMore
set_option linter.unusedVariables false
set_option linter.unusedSimpArgs false
theorem info3 : (Tryz.prog.info? 3).map (fun i => (i.zero, i.size, i.bytes)) = some (some (.int .i64 0), 1, 8) := p12z
theorem info5 : (Tryz.prog.info? 5).map (fun i => (i.zero, i.size, i.bytes)) = some (some (.int .u8 0), 1, 1) := p12z
theorem info9 : (Tryz.prog.info? 9).map (fun i => (i.zero, i.size, i.bytes)) = some (some (.string ⟨#[]⟩), 1, 16) := p12z
theorem info28 : (Tryz.prog.info? 28).map (fun i => (i.zero, i.size, i.bytes)) = some (some (.agg #[(.int .i64 0), (.string ⟨#[]⟩), (.slice none 0 0), (.slice none 0 0)]), 4, 72) := p12z
theorem info37 : (Tryz.prog.info? 37).map (fun i => (i.zero, i.size, i.bytes)) = some (some (.agg #[(.int .i64 0), (.string ⟨#[]⟩), (.slice none 0 0), (.slice none 0 0)]), 4, 72) := p12z
theorem k28_heap : Kd.Heap k28 := Kd.heap_fix (fun _ h_ => Kd.heap_iso _ (Kd.heap_pair (Kd.heap_int .i64) (Kd.heap_pair Kd.heap_string (Kd.heap_pair (Kd.heap_slice 9 Kd.heap_string) (Kd.heap_slice 28 h_)))))
theorem k28_openF {W : World} {ok : Nat → Prop} {x : S28} {cs : List Value} (h : Kd.FK k28 W ok x cs) : ∃ A2 c2 A3 c3, cs = [.int .i64 x.f0, .string x.f1, .slice A2 x.f2.length c2, .slice A3 x.f3.length c3] ∧ x.f2.length ≤ c2 ∧ Kd.F Kd.string W ok A2 x.f2.length x.f2 ∧ x.f3.length ≤ c3 ∧ Kd.F k28 W ok A3 x.f3.length x.f3 := by
  obtain ⟨A2, c2, A3, c3, rfl, l2, _, l3, _⟩ := k28_open (Kd.FK_now h)
  exact ⟨A2, c2, A3, c3, rfl, l2, (fun W' hW => by obtain ⟨A2_, c2_, A3_, c3_, he, l2_, g2_, l3_, g3_⟩ := k28_open (h W' hW); injection (Option.some.inj (show some (Value.slice A2 x.f2.length c2) = some (Value.slice A2_ x.f2.length c2_) from congrArg (fun l => l[2]?) he)) with ha_ _ _; rw [ha_]; exact g2_), l3, (fun W' hW => by obtain ⟨A2_, c2_, A3_, c3_, he, l2_, g2_, l3_, g3_⟩ := k28_open (h W' hW); injection (Option.some.inj (show some (Value.slice A3 x.f3.length c3) = some (Value.slice A3_ x.f3.length c3_) from congrArg (fun l => l[3]?) he)) with ha_ _ _; rw [ha_]; exact g3_)⟩
structure S37 where
  f0 : Int
  f1 : ByteArray
  f2 : (List ByteArray)
  f3 : (List S37)
def z37 : S37 := ⟨(0 : Int), (⟨#[]⟩ : ByteArray), ([] : List ByteArray), ([] : List S37)⟩
def F37 (d : Kd S37) : Kd S37 := Kd.iso (Kd.pair (Kd.int .i64) (Kd.pair Kd.string (Kd.pair (Kd.slice 9 Kd.string) (Kd.slice 37 d)))) (fun x : S37 => (x.f0, x.f1, x.f2, x.f3))
theorem mono37 : Kd.Mono F37 := Kd.mono_iso _ (Kd.mono_pair (Kd.mono_const _) (Kd.mono_pair (Kd.mono_const _) (Kd.mono_pair (Kd.mono_const _) (Kd.mono_slice 37 Kd.mono_id))))
theorem sub37 : Kd.Sub F37 [9, 37] := Kd.sub_iso _ (Kd.sub_pair (Kd.sub_const _ (by decide)) (Kd.sub_pair (Kd.sub_const _ (by decide)) (Kd.sub_pair (Kd.sub_const _ (by decide)) (Kd.sub_slice 37 (by decide) Kd.sub_id))))
theorem sz37 : ∀ n, (Kd.upto F37 4 [9, 37] n).sz = 4 := Kd.upto_sz (fun _ => rfl)
def k37 : Kd S37 := Kd.fix F37 4 [9, 37] sz37 (Kd.upto_E sub37)
theorem k37_open {w : World} {x : S37} {cs : List Value} (h : k37.K w x cs) : ∃ A2 c2 A3 c3, cs = [.int .i64 x.f0, .string x.f1, .slice A2 x.f2.length c2, .slice A3 x.f3.length c3] ∧ x.f2.length ≤ c2 ∧ Kd.string.C w A2 x.f2.length x.f2 ∧ x.f3.length ≤ c3 ∧ k37.C w A3 x.f3.length x.f3 := by
  obtain ⟨n, h⟩ := h
  cases n with
  | zero => exact h.elim
  | succ n =>
    obtain ⟨_, _, rfl, rfl, ⟨_, _, rfl, rfl, ⟨_, _, rfl, ⟨A2, c2, rfl, l2, g2⟩, ⟨A3, c3, rfl, l3, g3⟩⟩⟩⟩ := h
    exact ⟨A2, c2, A3, c3, rfl, l2, g2, l3, Kd.fix_C g3⟩
theorem k37_mk (w : World) (x : S37) {A2 : Option Addr} {c2 : Nat} (l2 : x.f2.length ≤ c2) (g2 : Kd.string.C w A2 x.f2.length x.f2) {A3 : Option Addr} {c3 : Nat} (l3 : x.f3.length ≤ c3) (g3 : k37.C w A3 x.f3.length x.f3) : k37.K w x [.int .i64 x.f0, .string x.f1, .slice A2 x.f2.length c2, .slice A3 x.f3.length c3] := by
  obtain ⟨n3, q3⟩ := Kd.fix_C_back mono37 g3
  have r3 := Kd.upto_C_le mono37 sz37 (show n3 ≤ n3 by omega) q3
  exact ⟨n3 + 1, ⟨[.int .i64 x.f0], [.string x.f1, .slice A2 x.f2.length c2, .slice A3 x.f3.length c3], rfl, rfl, ⟨[.string x.f1], [.slice A2 x.f2.length c2, .slice A3 x.f3.length c3], rfl, rfl, ⟨[.slice A2 x.f2.length c2], [.slice A3 x.f3.length c3], rfl, ⟨A2, c2, rfl, l2, g2⟩, ⟨A3, c3, rfl, l3, r3⟩⟩⟩⟩⟩
theorem k37_mkM (w : World) (base : Nat) (ok : Nat → Prop) (x : S37) {v2 : Value} (g2 : Kd.string.R 9 w base ok v2 x.f2) {v3 : Value} (g3 : k37.R 37 w base ok v3 x.f3) : k37.M w base ok x [.int .i64 x.f0, .string x.f1, v2, v3] := by
  obtain ⟨n3, q3⟩ := Kd.fix_R_back mono37 g3
  have r3 := Kd.upto_R_le mono37 sz37 (show n3 ≤ n3 by omega) q3
  exact ⟨n3 + 1, ⟨[.int .i64 x.f0], [.string x.f1, v2, v3], rfl, rfl, ⟨[.string x.f1], [v2, v3], rfl, rfl, ⟨[v2], [v3], rfl, ⟨v2, rfl, g2⟩, ⟨v3, rfl, r3⟩⟩⟩⟩⟩
theorem k37_mkF (W : World) (ok : Nat → Prop) (x : S37) {A2 : Option Addr} {c2 : Nat} (l2 : x.f2.length ≤ c2) (g2 : Kd.F Kd.string W ok A2 x.f2.length x.f2) {A3 : Option Addr} {c3 : Nat} (l3 : x.f3.length ≤ c3) (g3 : Kd.F k37 W ok A3 x.f3.length x.f3) : Kd.FK k37 W ok x [.int .i64 x.f0, .string x.f1, .slice A2 x.f2.length c2, .slice A3 x.f3.length c3] := fun W2 hW => k37_mk W2 x l2 (g2 W2 hW) l3 (g3 W2 hW)
def rd_T37 (xs : List S37) (i : Int) : S37 := xs.getD i.toNat z37
theorem at_T37 {w : World} {A : Option Addr} {n : Nat} {xs : List S37} (h : Kd.C k37 w A n xs) (i : Int) (h0 : 0 ≤ i) (h1 : i < n) : ∃ ad A2 c2 A3 c3, A = some ad ∧ w.cell? (ad.add (i.toNat * 4)) = some (.int .i64 (rd_T37 xs i).f0) ∧ w.cell? ⟨(ad.add (i.toNat * 4)).block, (ad.add (i.toNat * 4)).off + 1, none⟩ = some (.string (rd_T37 xs i).f1) ∧ w.cell? ⟨(ad.add (i.toNat * 4)).block, (ad.add (i.toNat * 4)).off + 2, none⟩ = some (.slice A2 (rd_T37 xs i).f2.length c2) ∧ w.cell? ⟨(ad.add (i.toNat * 4)).block, (ad.add (i.toNat * 4)).off + 3, none⟩ = some (.slice A3 (rd_T37 xs i).f3.length c3) ∧ (rd_T37 xs i).f2.length ≤ c2 ∧ Kd.string.C w A2 (rd_T37 xs i).f2.length (rd_T37 xs i).f2 ∧ (rd_T37 xs i).f3.length ≤ c3 ∧ k37.C w A3 (rd_T37 xs i).f3.length (rd_T37 xs i).f3 := by
  obtain ⟨ad, c, e, _, hK, hc0⟩ := Kd.C_get h z37 i h0 h1
  have hc : ∀ j u, c[j]? = some u → w.cell? (ad.add (i.toNat * 4 + j)) = some u := hc0
  obtain ⟨A2, c2, A3, c3, rfl, l2, g2, l3, g3⟩ := k37_open hK
  exact ⟨ad, A2, c2, A3, c3, e, hc 0 _ rfl, by rw [← add_field _ _ 1 (by omega)]; exact hc 1 _ rfl, by rw [← add_field _ _ 2 (by omega)]; exact hc 2 _ rfl, by rw [← add_field _ _ 3 (by omega)]; exact hc 3 _ rfl, l2, g2, l3, g3⟩

end Go.Proofs.YtodnggilomanbaaGreatDoor.PAll
end
section
-- Written by this repo's program wip/tools/pr.py (over the kit's print) out of the translation. Not trusted: Lean checks it.
set_option maxHeartbeats 8000000
set_option maxRecDepth 100000
namespace Go.Proofs.YtodnggilomanbaaGreatDoor.PAll
open Go.RowKit Go.Proofs.YtodnggilomanbaaGreatDoorW.PrintWords Go.Proofs.YtodnggilomanbaaGreatDoorW.PrintLast Go.Proofs.YtodnggilomanbaaGreatDoorW.PrintMore
attribute [local go_sem] max2_int min2_int max_two min_two max_three min_three max_four min_four   -- for this text's walks alone
set_option linter.unusedVariables false
set_option linter.unusedSimpArgs false

/-! ### ao: function 23 -/
mutual
def ao.l0 : Nat → Int → Int → Int → ByteArray → List ByteArray → List (S37) → Option (Int)
  | 0, _, _, _, _, _, _ => none
  | k + 1, x3, x4, x235000, x235001, x235002, dQ => if x4 < (dQ.length : Int) then (if 0 ≤ x4 then ((ao.f k ((rd_T37 dQ x4).f0) ((rd_T37 dQ x4).f1) ((rd_T37 dQ x4).f2) ((rd_T37 dQ x4).f3)).bind fun jz => (ao.l0 k (wrap64 (x3 + jz)) (wrap64 (x4 + 1)) x235000 x235001 x235002 dQ)) else (none)) else (some x3)
def ao.f : Nat → Int → ByteArray → List ByteArray → List (S37) → Option (Int)
  | 0, _, _, _, _ => none
  | k + 1, a0_0, a0_1, ab, aa => ao.l0 k 1 0 a0_0 a0_1 ab aa
end
theorem ao.calls (k : Nat) : ∀ (a0_0 : Int) (a0_1 : ByteArray) (A0_2 : Option Addr) (c0_2 : Nat) (ab : List ByteArray) (A0_3 : Option Addr) (c0_3 : Nat) (aa : List (S37)) (r : Int) (w : World) (hr0_2 : Kd.C Kd.string w A0_2 ab.length ab) (hc0_2 : ab.length ≤ c0_2) (hr0_3 : Kd.C k37 w A0_3 aa.length aa) (hc0_3 : aa.length ≤ c0_3) (h : ao.f k a0_0 a0_1 ab aa = some r),
 Calls Tryz.prog 23 #[.agg #[.int .i64 a0_0, .string a0_1, .slice A0_2 ab.length c0_2, .slice A0_3 aa.length c0_3]] w fun e w' => e = .returned (.int .i64 r) ∧ Below w.heap.size w w' := by
 induction k using Nat.strongRecOn with
 | _ k ih =>
 intro a0_0 a0_1 A0_2 c0_2 ab A0_3 c0_3 aa r w hr0_2 hc0_2 hr0_3 hc0_3 h
 cases k with
 | zero => exact absurd h (by simp [ao.f])
 | succ k =>
 simp only [ao.f] at h
 have hu37 := Tryz.underlying37
 have cU := Aside0.mk hr0_2
 have bZ := Aside0.mk hc0_2
 clear hr0_2 hc0_2
 have cP := Aside0.mk hr0_3
 have cn := Aside0.mk hc0_3
 clear hr0_3 hc0_3
 have HB := Aside0.mk (Below.refl w.heap.size w)
 have H : (ao.l0 k 1 0 a0_0 a0_1 ab aa) = some r := h
 clear h
 have H' := Aside0.mk H
 clear H
 go_enter Tryz.func23, Tryz.ntmps23
 go_wp2_with (first | ((with_reducible refine gate_dst (N := 1) rfl ?_); refine box_event ?hg (N := 1) ?hd (cs := #[.int .i64 a0_0, .string a0_1, .slice A0_2 ab.length c0_2, .slice A0_3 aa.length c0_3]) (t := 37) ?hr ?_; (case hd => rfl); (case hg => rfl); (case hr => exact p9z); intro iP hg w2 hbox hb; have z_ := asi4 (below_step p0z hb) (hbox) ((p21z : w.heap.size ≤ iP)) ((p21z : w.heap.size ≤ iP)); clear HB; obtain ⟨HB, fz, GW234, GE234⟩ := z_; clear hb hbox hg))
 go_loopg [3, 4] k (fun kq v3 v4 w' => ∃ (aW : Int) (aj : Int), v3 = .int .i64 aW ∧ v4 = .int .i64 aj ∧ Aside0 (ao.l0 kq aW aj a0_0 a0_1 ab aa = some r) ∧ Aside0 (kq ≤ k) ∧ Aside0 (w'.heap[iP]? = some (.cells #[.int .i64 a0_0, .string a0_1, (.slice A0_2 ab.length c0_2), (.slice A0_3 aa.length c0_3)] 37 (0, 0))) ∧ Aside0 (Below w.heap.size w w'))
 case atStart => exact ⟨(1), (0), p5z, p5z, H', ⟨Nat.le_refl _⟩, ⟨p100z⟩, ⟨p67z⟩⟩
 case round =>
  clear H'
  obtain ⟨aW, aj, rfl, rfl, HA, HK1, fz, HB⟩ := hrel
  cases gk with
  | zero => exact absurd HA.out (by simp [ao.l0])
  | succ k1 =>
   have H := HA.out
   clear HA
   simp only [ao.l0] at H
   by_cases c3 : aj < (aa.length : Int)
   case neg =>
    rw [if_neg c3] at H
    have cW : decide (aj < (aa.length : Int)) = false := decide_eq_false c3
    clear c3
    obtain rfl := Option.some.inj H
    obtain ⟨hcz8_0, hcz8_1, hcz8_2, hcz8_3, hfz8_0, hfz8_1, hfz8_2, hfz8_3⟩ := cells4 fz.out
    go_wp2
    go_ret
    exact ⟨p7z, p67z⟩
   rw [if_pos c3] at H
   have cW : decide (aj < (aa.length : Int)) = true := decide_eq_true c3
   clear c3
   by_cases c4 : 0 ≤ aj
   case neg =>
    rw [if_neg c4] at H
    exact absurd H (by simp)
   rw [if_pos c4] at H
   have dd : decide (0 ≤ aj) = true := decide_eq_true c4
   clear c4
   replace H := Option.bind_eq_some_iff.mp H
   obtain ⟨jz, A50, H⟩ := H
   replace H : (ao.l0 k1 (wrap64 (aW + jz)) (wrap64 (aj + 1)) a0_0 a0_1 ab aa) = some r := H
   have A5 := Aside0.mk A50
   clear A50
   have H' := Aside0.mk H
   clear H
   obtain ⟨hcz6_0, hcz6_1, hcz6_2, hcz6_3, hfz6_0, hfz6_1, hfz6_2, hfz6_3⟩ := cells4 fz.out
   have p235 : 0 ≤ (aj : Int) := of_decide_eq_true p4z
   have q235 : aj < (aa.length : Int) := of_decide_eq_true p4z
   obtain ⟨ad235, A235_2, c235_2, A235_3, c235_3, e235, hx235_0, hx235_1, hx235_2, hx235_3, hl235_2, hi235_2, hl235_3, hi235_3⟩ := at_T37 cP.out aj p235 q235
   cases e235
   replace hx235_0 := (HB.out.cell (World.block_lt_of_cell? w _ hx235_0)).trans hx235_0
   replace hx235_1 := (HB.out.cell (World.block_lt_of_cell? w _ hx235_1)).trans hx235_1
   replace hx235_2 := (HB.out.cell (World.block_lt_of_cell? w _ hx235_2)).trans hx235_2
   replace hx235_3 := (HB.out.cell (World.block_lt_of_cell? w _ hx235_3)).trans hx235_3
   have HR235_2 := Aside0.mk hi235_2
   have HC235_2 := Aside0.mk hl235_2
   clear hi235_2 hl235_2
   have HR235_3 := Aside0.mk hi235_3
   have HC235_3 := Aside0.mk hl235_3
   clear hi235_3 hl235_3
   replace p235 := eq_true p235
   replace q235 := eq_true q235
   go_wp2_with (first | ((with_reducible refine gate_callee (f := 23) rfl ?_); refine goesL_ (some 18) rfl rfl Tryz.func23 p12z rfl #[.agg #[.int .i64 ((rd_T37 aa aj).f0), .string ((rd_T37 aa aj).f1), .slice A235_2 ((rd_T37 aa aj).f2).length c235_2, .slice A235_3 ((rd_T37 aa aj).f3).length c235_3]] rfl p3z ?_; (with_reducible refine (ih k1 p96z ((rd_T37 aa aj).f0) ((rd_T37 aa aj).f1) _ _ ((rd_T37 aa aj).f2) _ _ ((rd_T37 aa aj).f3) jz _ ?side1 ?side2 ?side3 ?side4 A5.out).mono ?_); (case side1 => repeat (first | exact (Kd.C_below HR235_2.out HB.out) | (with_reducible refine Kd.C_alloc ?_ _) | (with_reducible refine Kd.C_drewN ?_ _) | (with_reducible refine Kd.C_drew ?_))); (case side2 => exact HC235_2.out); (case side3 => repeat (first | exact (Kd.C_below HR235_3.out HB.out) | (with_reducible refine Kd.C_alloc ?_ _) | (with_reducible refine Kd.C_drewN ?_ _) | (with_reducible refine Kd.C_drew ?_))); (case side4 => exact HC235_3.out); rintro e w7 ⟨rfl, hb⟩; refine ⟨_, rfl, ?_⟩; have z_ := asi2 (blk_below (g := iP) (o := .cells #[.int .i64 a0_0, .string a0_1, .slice A0_2 ab.length c0_2, .slice (some ad235) aa.length c0_3] 37 (0, 0)) p100z hb) (below_step p67z hb); clear fz HB; obtain ⟨fz, HB⟩ := z_; (try clear hb)))
   go_roundg k1
   case measure => have := HK1.out; omega
   case rel => exact ⟨(wrap64 (aW + jz)), (wrap64 (aj + 1)), p5z, p5z, H', ⟨p96z⟩, ⟨p100z⟩, ⟨p67z⟩⟩
end Go.Proofs.YtodnggilomanbaaGreatDoor.PAll
end
section
-- Written by this repo's program wip/tools/pr.py (over the kit's print) out of the translation. Not trusted: Lean checks it.
set_option maxHeartbeats 8000000
set_option maxRecDepth 100000
namespace Go.Proofs.YtodnggilomanbaaGreatDoor.PAll
open Go.RowKit Go.Proofs.YtodnggilomanbaaGreatDoorW.PrintWords Go.Proofs.YtodnggilomanbaaGreatDoorW.PrintLast Go.Proofs.YtodnggilomanbaaGreatDoorW.PrintMore
attribute [local go_sem] max2_int min2_int max_two min_two max_three min_three max_four min_four   -- for this text's walks alone
set_option linter.unusedVariables false
set_option linter.unusedSimpArgs false

/-! ### ah: function 98 -/
def ah.l0 : Nat → ByteArray → Int → Int → Option (Int)
  | 0, _, _, _ => none
  | k + 1, x0, x1, x5 => if (wrap64 (x1 + x5)) < (x0.size : Int) then (if 0 ≤ (wrap64 (x1 + x5)) then (if (bt x0 (wrap64 (x1 + x5))) ≥ 48 then (if (bt x0 (wrap64 (x1 + x5))) ≤ 57 then (ah.l0 k x0 x1 (wrap64 (x5 + 1))) else (some x5)) else (some x5)) else (none)) else (some x5)
def ah.f (k : Nat) (a0 : ByteArray) (a1 : Int) : Option (Int) := ah.l0 k a0 a1 0
theorem ah.calls (k : Nat) (a0 : ByteArray) (a1 : Int) (r : Int) (w : World) (h : ah.f k a0 a1 = some r) :
 Calls Tryz.prog 98 #[.string a0, .int .i64 a1] w fun e w' => e = .returned (.int .i64 r) ∧ Drawn0 w w' := by
 have H : (ah.l0 k a0 a1 0) = some r := h
 clear h
 have H' := Aside0.mk H
 clear H
 go_enter Tryz.func98, Tryz.ntmps98
 go_wp2
 go_loopg [5] k (fun kq v5 w' => ∃ (bP : Int), v5 = .int .i64 bP ∧ Aside0 (ah.l0 kq a0 a1 bP = some r) ∧ Aside0 (kq ≤ k) ∧ Drawn0 w w')
 case atStart => exact ⟨(0), p5z, H', ⟨Nat.le_refl _⟩, p17z⟩
 case round =>
  clear H'
  obtain ⟨bP, rfl, HA, HK1, ⟨m1, rfl⟩⟩ := hrel
  cases gk with
  | zero => exact absurd HA.out (by simp [ah.l0])
  | succ k1 =>
   have H := HA.out
   clear HA
   simp only [ah.l0] at H
   by_cases c3 : (wrap64 (a1 + bP)) < (a0.size : Int)
   case neg =>
    rw [if_neg c3] at H
    have cW : decide ((wrap64 (a1 + bP)) < (a0.size : Int)) = false := decide_eq_false c3
    clear c3
    obtain rfl := Option.some.inj H
    go_wp2
    go_ret
    exact ⟨p5z, p17z⟩

   rw [if_pos c3] at H
   have cW : decide ((wrap64 (a1 + bP)) < (a0.size : Int)) = true := decide_eq_true c3
   clear c3
   obtain ⟨ji4, hji4⟩ : ∃ j_ : Int, (wrap64 (a1 + bP)) = j_ := ⟨_, rfl⟩
   replace H : (if 0 ≤ (ji4) then (if (bt a0 (ji4)) ≥ 48 then (if (bt a0 (ji4)) ≤ 57 then (ah.l0 k1 a0 a1 (wrap64 (bP + 1))) else (some bP)) else (some bP)) else (none)) = some r := by first | (rw [hji4] at H; exact H) | (simp only [hji4] at H ⊢; exact H)
   (try rw [hji4] at cW)
   have hji4w : (IntKind.i64.wrap (a1 + bP)) = ji4 := (i64_w _).trans hji4
   by_cases c5 : 0 ≤ (ji4)
   case neg =>
    rw [if_neg c5] at H
    exact absurd H (by simp)
   rw [if_pos c5] at H
   have dE : decide (0 ≤ (ji4)) = true := decide_eq_true c5
   clear c5
   by_cases c7 : (bt a0 (ji4)) ≥ 48
   case neg =>
    rw [if_neg c7] at H
    have fm : decide (48 ≤ (bt a0 (ji4))) = false := decide_eq_false c7
    clear c7
    obtain rfl := Option.some.inj H
    have p6 : 0 ≤ ((ji4) : Int) := of_decide_eq_true p4z
    have q6 : (ji4) < (a0.size : Int) := of_decide_eq_true p4z
    have hx6 := bt_at a0 (ji4)
    replace p6 := eq_true p6
    replace q6 := eq_true q6
    go_wp2
    go_ret
    exact ⟨by first | rfl | (simp; done) | (simp only [← hji4] <;> (first | rfl | simp)) | (simp [*]; done), p17z⟩
   rw [if_pos c7] at H
   have fm : decide (48 ≤ (bt a0 (ji4))) = true := decide_eq_true c7
   clear c7
   by_cases c9 : (bt a0 (ji4)) ≤ 57
   case neg =>
    rw [if_neg c9] at H
    have f5 : decide ((bt a0 (ji4)) ≤ 57) = false := decide_eq_false c9
    clear c9
    obtain rfl := Option.some.inj H
    have p6 : 0 ≤ ((ji4) : Int) := of_decide_eq_true p4z
    have q6 : (ji4) < (a0.size : Int) := of_decide_eq_true p4z
    have hx6 := bt_at a0 (ji4)
    replace p6 := eq_true p6
    replace q6 := eq_true q6
    have p8 : 0 ≤ ((ji4) : Int) := of_decide_eq_true p4z
    have q8 : (ji4) < (a0.size : Int) := of_decide_eq_true p4z
    have hx8 := bt_at a0 (ji4)
    replace p8 := eq_true p8
    replace q8 := eq_true q8
    go_wp2
    go_ret
    exact ⟨by first | rfl | (simp; done) | (simp only [← hji4] <;> (first | rfl | simp)) | (simp [*]; done), p17z⟩
   rw [if_pos c9] at H
   have f5 : decide ((bt a0 (ji4)) ≤ 57) = true := decide_eq_true c9
   clear c9
   have H' := Aside0.mk H
   clear H
   have p6 : 0 ≤ ((ji4) : Int) := of_decide_eq_true p4z
   have q6 : (ji4) < (a0.size : Int) := of_decide_eq_true p4z
   have hx6 := bt_at a0 (ji4)
   replace p6 := eq_true p6
   replace q6 := eq_true q6
   have p8 : 0 ≤ ((ji4) : Int) := of_decide_eq_true p4z
   have q8 : (ji4) < (a0.size : Int) := of_decide_eq_true p4z
   have hx8 := bt_at a0 (ji4)
   replace p8 := eq_true p8
   replace q8 := eq_true q8
   go_wp2
   go_roundg k1
   case measure => have := HK1.out; omega
   case rel => exact ⟨(wrap64 (bP + 1)), p5z, H', ⟨p96z⟩, p17z⟩
/-! ### aE: function 77 -/
def aE.f (k : Nat) (a0 : ByteArray) : Option (Bool) := if (a0.size : Int) > 0 then (if 0 < (a0.size : Int) then (if (bt a0 0) = 45 then ((ah.f k a0 1).bind fun cG => (if cG ≥ 1 then (if cG ≤ 40 then (if (wrap64 (1 + cG)) = (a0.size : Int) then (if cG = 1 then (some true) else (if 1 < (a0.size : Int) then (some ((bt a0 1) != 48)) else (none))) else (some false)) else (some false)) else (some false))) else ((ah.f k a0 0).bind fun cH => (if cH ≥ 1 then (if cH ≤ 40 then (if (wrap64 cH) = (a0.size : Int) then (if cH = 1 then (some true) else (some ((bt a0 0) != 48))) else (some false)) else (some false)) else (some false)))) else (none)) else ((ah.f k a0 0).bind fun cI => (if cI ≥ 1 then (if cI ≤ 40 then (if (wrap64 cI) = (a0.size : Int) then (if cI = 1 then (some true) else (if 0 < (a0.size : Int) then (some ((bt a0 0) != 48)) else (none))) else (some false)) else (some false)) else (some false)))
theorem aE.calls (k : Nat) (a0 : ByteArray) (r : Bool) (w : World) (h : aE.f k a0 = some r) :
 Calls Tryz.prog 77 #[.string a0] w fun e w' => e = .returned (.bool r) ∧ Drawn0 w w' := by
 have H : (if (a0.size : Int) > 0 then (if 0 < (a0.size : Int) then (if (bt a0 0) = 45 then ((ah.f k a0 1).bind fun cG => (if cG ≥ 1 then (if cG ≤ 40 then (if (wrap64 (1 + cG)) = (a0.size : Int) then (if cG = 1 then (some true) else (if 1 < (a0.size : Int) then (some ((bt a0 1) != 48)) else (none))) else (some false)) else (some false)) else (some false))) else ((ah.f k a0 0).bind fun cH => (if cH ≥ 1 then (if cH ≤ 40 then (if (wrap64 cH) = (a0.size : Int) then (if cH = 1 then (some true) else (some ((bt a0 0) != 48))) else (some false)) else (some false)) else (some false)))) else (none)) else ((ah.f k a0 0).bind fun cI => (if cI ≥ 1 then (if cI ≤ 40 then (if (wrap64 cI) = (a0.size : Int) then (if cI = 1 then (some true) else (if 0 < (a0.size : Int) then (some ((bt a0 0) != 48)) else (none))) else (some false)) else (some false)) else (some false)))) = some r := h
 clear h
 by_cases c2 : (a0.size : Int) > 0
 case neg =>
  rw [if_neg c2] at H
  have eQ : decide (0 < (a0.size : Int)) = false := decide_eq_false c2
  have gv : decide (0 < a0.size) = false := decide_eq_false (by omega)
  clear c2
  replace H := Option.bind_eq_some_iff.mp H
  obtain ⟨cI, A190, H⟩ := H
  replace H : (if cI ≥ 1 then (if cI ≤ 40 then (if (wrap64 cI) = (a0.size : Int) then (if cI = 1 then (some true) else (if 0 < (a0.size : Int) then (some ((bt a0 0) != 48)) else (none))) else (some false)) else (some false)) else (some false)) = some r := H
  have A19 := Aside0.mk A190
  clear A190
  by_cases c20 : cI ≥ 1
  case neg =>
   rw [if_neg c20] at H
   have iU : decide (1 ≤ cI) = false := decide_eq_false c20
   clear c20
   obtain rfl := Option.some.inj H
   go_enter Tryz.func77, Tryz.ntmps77
   go_wp2_with (first | ((with_reducible refine gate_callee (f := 98) rfl ?_); refine goesL_ (some 15) rfl rfl Tryz.func98 p12z rfl #[.string a0, .int .i64 0] rfl p3z ?_; (with_reducible refine (ah.calls k a0 0 cI _ A19.out).mono ?_); rintro e w' ⟨rfl, ⟨nd, rfl⟩⟩; refine ⟨_, rfl, ?_⟩))
   go_ret
   exact ⟨p5z, p17z⟩
  rw [if_pos c20] at H
  have iU : decide (1 ≤ cI) = true := decide_eq_true c20
  clear c20
  by_cases c21 : cI ≤ 40
  case neg =>
   rw [if_neg c21] at H
   have fC : decide (cI ≤ 40) = false := decide_eq_false c21
   clear c21
   obtain rfl := Option.some.inj H
   go_enter Tryz.func77, Tryz.ntmps77
   go_wp2_with (first | ((with_reducible refine gate_callee (f := 98) rfl ?_); refine goesL_ (some 15) rfl rfl Tryz.func98 p12z rfl #[.string a0, .int .i64 0] rfl p3z ?_; (with_reducible refine (ah.calls k a0 0 cI _ A19.out).mono ?_); rintro e w' ⟨rfl, ⟨nd, rfl⟩⟩; refine ⟨_, rfl, ?_⟩))
   go_ret
   exact ⟨p5z, p17z⟩
  rw [if_pos c21] at H
  have fC : decide (cI ≤ 40) = true := decide_eq_true c21
  clear c21
  by_cases c22 : (wrap64 cI) = (a0.size : Int)
  case neg =>
   rw [if_neg c22] at H
   have c22b0 : ((wrap64 cI) == (a0.size : Int)) = false := beq_eq_false_iff_ne.mpr c22
   have c22b1 : ((wrap64 cI) != (a0.size : Int)) = true := bne_iff_ne.mpr c22
   obtain rfl := Option.some.inj H
   go_enter Tryz.func77, Tryz.ntmps77
   go_wp2_with (first | ((with_reducible refine gate_callee (f := 98) rfl ?_); refine goesL_ (some 15) rfl rfl Tryz.func98 p12z rfl #[.string a0, .int .i64 0] rfl p3z ?_; (with_reducible refine (ah.calls k a0 0 cI _ A19.out).mono ?_); rintro e w' ⟨rfl, ⟨nd, rfl⟩⟩; refine ⟨_, rfl, ?_⟩))
   go_ret
   exact ⟨p5z, p17z⟩
  rw [if_pos c22] at H
  have c22b0 : ((wrap64 cI) == (a0.size : Int)) = true := beq_iff_eq.mpr c22
  have c22b1 : ((wrap64 cI) != (a0.size : Int)) = false := bne_eq_false_iff_eq.mpr c22
  clear c22
  by_cases c23 : cI = 1
  case pos =>
   rw [if_pos c23] at H
   have jB : (cI == 1) = true := beq_iff_eq.mpr c23
   have c23b1 : (cI != 1) = false := bne_eq_false_iff_eq.mpr c23
   clear c23
   obtain rfl := Option.some.inj H
   go_enter Tryz.func77, Tryz.ntmps77
   go_wp2_with (first | ((with_reducible refine gate_callee (f := 98) rfl ?_); refine goesL_ (some 15) rfl rfl Tryz.func98 p12z rfl #[.string a0, .int .i64 0] rfl p3z ?_; (with_reducible refine (ah.calls k a0 0 cI _ A19.out).mono ?_); rintro e w' ⟨rfl, ⟨nd, rfl⟩⟩; refine ⟨_, rfl, ?_⟩))
   go_ret
   exact ⟨p5z, p17z⟩
  rw [if_neg c23] at H
  have jB : (cI == 1) = false := beq_eq_false_iff_ne.mpr c23
  have c23b1 : (cI != 1) = true := bne_iff_ne.mpr c23
  by_cases c24 : 0 < (a0.size : Int)
  case neg =>
   rw [if_neg c24] at H
   exact absurd H (by simp)
  rw [if_pos c24] at H
  have ec : decide (0 < (a0.size : Int)) = true := decide_eq_true c24
  have c24b1 : decide (0 < a0.size) = true := decide_eq_true (by omega)
  clear c24
  obtain rfl := Option.some.inj H
  go_enter Tryz.func77, Tryz.ntmps77
  go_wp2_with (first | ((with_reducible refine gate_callee (f := 98) rfl ?_); refine goesL_ (some 15) rfl rfl Tryz.func98 p12z rfl #[.string a0, .int .i64 0] rfl p3z ?_; (with_reducible refine (ah.calls k a0 0 cI _ A19.out).mono ?_); rintro e w' ⟨rfl, ⟨nd, rfl⟩⟩; refine ⟨_, rfl, ?_⟩; have p25 : 0 ≤ (0 : Int) := (by omega); have q25 : 0 < a0.size := p49z; have hx25 : ∀ h : 0 < a0.size, ((a0[0]'h).toNat : Int) = bt a0 0 := bt_at a0 0; clear p25; have qi25 : (0 < (a0.size : Int)) = True := eq_true (of_decide_eq_true p4z); replace q25 := eq_true q25))
  go_ret
  exact ⟨p5z, p17z⟩
 rw [if_pos c2] at H
 have eQ : decide (0 < (a0.size : Int)) = true := decide_eq_true c2
 have gv : decide (0 < a0.size) = true := decide_eq_true (by omega)
 clear c2
 by_cases c3 : 0 < (a0.size : Int)
 case neg =>
  rw [if_neg c3] at H
  exact absurd H (by simp)
 rw [if_pos c3] at H
 have cW : decide (0 < (a0.size : Int)) = true := decide_eq_true c3
 have ez : decide (0 < a0.size) = true := decide_eq_true (by omega)
 clear c3
 by_cases c5 : (bt a0 0) = 45
 case neg =>
  rw [if_neg c5] at H
  have dE : ((bt a0 0) == 45) = false := beq_eq_false_iff_ne.mpr c5
  have fZ : ((bt a0 0) != 45) = true := bne_iff_ne.mpr c5
  replace H := Option.bind_eq_some_iff.mp H
  obtain ⟨cH, A130, H⟩ := H
  replace H : (if cH ≥ 1 then (if cH ≤ 40 then (if (wrap64 cH) = (a0.size : Int) then (if cH = 1 then (some true) else (some ((bt a0 0) != 48))) else (some false)) else (some false)) else (some false)) = some r := H
  have A13 := Aside0.mk A130
  clear A130
  by_cases c14 : cH ≥ 1
  case neg =>
   rw [if_neg c14] at H
   have iT : decide (1 ≤ cH) = false := decide_eq_false c14
   clear c14
   obtain rfl := Option.some.inj H
   have p4 : 0 ≤ (0 : Int) := (by omega)
   have q4 : 0 < a0.size := p49z
   have hx4 : ∀ h : 0 < a0.size, ((a0[0]'h).toNat : Int) = bt a0 0 := bt_at a0 0
   clear p4
   have qi4 : (0 < (a0.size : Int)) = True := eq_true (of_decide_eq_true p4z)
   replace q4 := eq_true q4
   go_enter Tryz.func77, Tryz.ntmps77
   go_wp2_with (first | ((with_reducible refine gate_callee (f := 98) rfl ?_); refine goesL_ (some 15) rfl rfl Tryz.func98 p12z rfl #[.string a0, .int .i64 0] rfl p3z ?_; (with_reducible refine (ah.calls k a0 0 cH _ A13.out).mono ?_); rintro e w' ⟨rfl, ⟨nd, rfl⟩⟩; refine ⟨_, rfl, ?_⟩))
   go_ret
   exact ⟨p5z, p17z⟩
  rw [if_pos c14] at H
  have iT : decide (1 ≤ cH) = true := decide_eq_true c14
  clear c14
  by_cases c15 : cH ≤ 40
  case neg =>
   rw [if_neg c15] at H
   have dA : decide (cH ≤ 40) = false := decide_eq_false c15
   clear c15
   obtain rfl := Option.some.inj H
   have p4 : 0 ≤ (0 : Int) := (by omega)
   have q4 : 0 < a0.size := p49z
   have hx4 : ∀ h : 0 < a0.size, ((a0[0]'h).toNat : Int) = bt a0 0 := bt_at a0 0
   clear p4
   have qi4 : (0 < (a0.size : Int)) = True := eq_true (of_decide_eq_true p4z)
   replace q4 := eq_true q4
   go_enter Tryz.func77, Tryz.ntmps77
   go_wp2_with (first | ((with_reducible refine gate_callee (f := 98) rfl ?_); refine goesL_ (some 15) rfl rfl Tryz.func98 p12z rfl #[.string a0, .int .i64 0] rfl p3z ?_; (with_reducible refine (ah.calls k a0 0 cH _ A13.out).mono ?_); rintro e w' ⟨rfl, ⟨nd, rfl⟩⟩; refine ⟨_, rfl, ?_⟩))
   go_ret
   exact ⟨p5z, p17z⟩
  rw [if_pos c15] at H
  have dA : decide (cH ≤ 40) = true := decide_eq_true c15
  clear c15
  by_cases c16 : (wrap64 cH) = (a0.size : Int)
  case neg =>
   rw [if_neg c16] at H
   have fx : ((wrap64 cH) == (a0.size : Int)) = false := beq_eq_false_iff_ne.mpr c16
   have c16b1 : ((wrap64 cH) != (a0.size : Int)) = true := bne_iff_ne.mpr c16
   obtain rfl := Option.some.inj H
   have p4 : 0 ≤ (0 : Int) := (by omega)
   have q4 : 0 < a0.size := p49z
   have hx4 : ∀ h : 0 < a0.size, ((a0[0]'h).toNat : Int) = bt a0 0 := bt_at a0 0
   clear p4
   have qi4 : (0 < (a0.size : Int)) = True := eq_true (of_decide_eq_true p4z)
   replace q4 := eq_true q4
   go_enter Tryz.func77, Tryz.ntmps77
   go_wp2_with (first | ((with_reducible refine gate_callee (f := 98) rfl ?_); refine goesL_ (some 15) rfl rfl Tryz.func98 p12z rfl #[.string a0, .int .i64 0] rfl p3z ?_; (with_reducible refine (ah.calls k a0 0 cH _ A13.out).mono ?_); rintro e w' ⟨rfl, ⟨nd, rfl⟩⟩; refine ⟨_, rfl, ?_⟩))
   go_ret
   exact ⟨p5z, p17z⟩
  rw [if_pos c16] at H
  have fx : ((wrap64 cH) == (a0.size : Int)) = true := beq_iff_eq.mpr c16
  have c16b1 : ((wrap64 cH) != (a0.size : Int)) = false := bne_eq_false_iff_eq.mpr c16
  clear c16
  by_cases c17 : cH = 1
  case pos =>
   rw [if_pos c17] at H
   have eF : (cH == 1) = true := beq_iff_eq.mpr c17
   have gC : (cH != 1) = false := bne_eq_false_iff_eq.mpr c17
   clear c17
   obtain rfl := Option.some.inj H
   have p4 : 0 ≤ (0 : Int) := (by omega)
   have q4 : 0 < a0.size := p49z
   have hx4 : ∀ h : 0 < a0.size, ((a0[0]'h).toNat : Int) = bt a0 0 := bt_at a0 0
   clear p4
   have qi4 : (0 < (a0.size : Int)) = True := eq_true (of_decide_eq_true p4z)
   replace q4 := eq_true q4
   go_enter Tryz.func77, Tryz.ntmps77
   go_wp2_with (first | ((with_reducible refine gate_callee (f := 98) rfl ?_); refine goesL_ (some 15) rfl rfl Tryz.func98 p12z rfl #[.string a0, .int .i64 0] rfl p3z ?_; (with_reducible refine (ah.calls k a0 0 cH _ A13.out).mono ?_); rintro e w' ⟨rfl, ⟨nd, rfl⟩⟩; refine ⟨_, rfl, ?_⟩))
   go_ret
   exact ⟨p5z, p17z⟩
  rw [if_neg c17] at H
  have eF : (cH == 1) = false := beq_eq_false_iff_ne.mpr c17
  have gC : (cH != 1) = true := bne_iff_ne.mpr c17
  obtain rfl := Option.some.inj H
  have p4 : 0 ≤ (0 : Int) := (by omega)
  have q4 : 0 < a0.size := p49z
  have hx4 : ∀ h : 0 < a0.size, ((a0[0]'h).toNat : Int) = bt a0 0 := bt_at a0 0
  clear p4
  have qi4 : (0 < (a0.size : Int)) = True := eq_true (of_decide_eq_true p4z)
  replace q4 := eq_true q4
  go_enter Tryz.func77, Tryz.ntmps77
  go_wp2_with (first | ((with_reducible refine gate_callee (f := 98) rfl ?_); refine goesL_ (some 15) rfl rfl Tryz.func98 p12z rfl #[.string a0, .int .i64 0] rfl p3z ?_; (with_reducible refine (ah.calls k a0 0 cH _ A13.out).mono ?_); rintro e w' ⟨rfl, ⟨nd, rfl⟩⟩; refine ⟨_, rfl, ?_⟩; have p18 : 0 ≤ (0 : Int) := (by omega); have q18 : 0 < a0.size := p49z; have hx18 : ∀ h : 0 < a0.size, ((a0[0]'h).toNat : Int) = bt a0 0 := bt_at a0 0; clear p18; have qi18 : (0 < (a0.size : Int)) = True := eq_true (of_decide_eq_true p4z); replace q18 := eq_true q18))
  go_ret
  exact ⟨p5z, p17z⟩
 rw [if_pos c5] at H
 have dE : ((bt a0 0) == 45) = true := beq_iff_eq.mpr c5
 have fZ : ((bt a0 0) != 45) = false := bne_eq_false_iff_eq.mpr c5
 clear c5
 replace H := Option.bind_eq_some_iff.mp H
 obtain ⟨cG, A60, H⟩ := H
 replace H : (if cG ≥ 1 then (if cG ≤ 40 then (if (wrap64 (1 + cG)) = (a0.size : Int) then (if cG = 1 then (some true) else (if 1 < (a0.size : Int) then (some ((bt a0 1) != 48)) else (none))) else (some false)) else (some false)) else (some false)) = some r := H
 have A6 := Aside0.mk A60
 clear A60
 by_cases c7 : cG ≥ 1
 case neg =>
  rw [if_neg c7] at H
  have fm : decide (1 ≤ cG) = false := decide_eq_false c7
  clear c7
  obtain rfl := Option.some.inj H
  have p4 : 0 ≤ (0 : Int) := (by omega)
  have q4 : 0 < a0.size := p49z
  have hx4 : ∀ h : 0 < a0.size, ((a0[0]'h).toNat : Int) = bt a0 0 := bt_at a0 0
  clear p4
  have qi4 : (0 < (a0.size : Int)) = True := eq_true (of_decide_eq_true p4z)
  replace q4 := eq_true q4
  go_enter Tryz.func77, Tryz.ntmps77
  go_wp2_with (first | ((with_reducible refine gate_callee (f := 98) rfl ?_); refine goesL_ (some 15) rfl rfl Tryz.func98 p12z rfl #[.string a0, .int .i64 1] rfl p3z ?_; (with_reducible refine (ah.calls k a0 1 cG _ A6.out).mono ?_); rintro e w' ⟨rfl, ⟨nd, rfl⟩⟩; refine ⟨_, rfl, ?_⟩))
  go_ret
  exact ⟨p5z, p17z⟩
 rw [if_pos c7] at H
 have fm : decide (1 ≤ cG) = true := decide_eq_true c7
 clear c7
 by_cases c8 : cG ≤ 40
 case neg =>
  rw [if_neg c8] at H
  have dK : decide (cG ≤ 40) = false := decide_eq_false c8
  clear c8
  obtain rfl := Option.some.inj H
  have p4 : 0 ≤ (0 : Int) := (by omega)
  have q4 : 0 < a0.size := p49z
  have hx4 : ∀ h : 0 < a0.size, ((a0[0]'h).toNat : Int) = bt a0 0 := bt_at a0 0
  clear p4
  have qi4 : (0 < (a0.size : Int)) = True := eq_true (of_decide_eq_true p4z)
  replace q4 := eq_true q4
  go_enter Tryz.func77, Tryz.ntmps77
  go_wp2_with (first | ((with_reducible refine gate_callee (f := 98) rfl ?_); refine goesL_ (some 15) rfl rfl Tryz.func98 p12z rfl #[.string a0, .int .i64 1] rfl p3z ?_; (with_reducible refine (ah.calls k a0 1 cG _ A6.out).mono ?_); rintro e w' ⟨rfl, ⟨nd, rfl⟩⟩; refine ⟨_, rfl, ?_⟩))
  go_ret
  exact ⟨p5z, p17z⟩
 rw [if_pos c8] at H
 have dK : decide (cG ≤ 40) = true := decide_eq_true c8
 clear c8
 by_cases c9 : (wrap64 (1 + cG)) = (a0.size : Int)
 case neg =>
  rw [if_neg c9] at H
  have f5 : ((wrap64 (1 + cG)) == (a0.size : Int)) = false := beq_eq_false_iff_ne.mpr c9
  have c9b1 : ((wrap64 (1 + cG)) != (a0.size : Int)) = true := bne_iff_ne.mpr c9
  obtain rfl := Option.some.inj H
  have p4 : 0 ≤ (0 : Int) := (by omega)
  have q4 : 0 < a0.size := p49z
  have hx4 : ∀ h : 0 < a0.size, ((a0[0]'h).toNat : Int) = bt a0 0 := bt_at a0 0
  clear p4
  have qi4 : (0 < (a0.size : Int)) = True := eq_true (of_decide_eq_true p4z)
  replace q4 := eq_true q4
  go_enter Tryz.func77, Tryz.ntmps77
  go_wp2_with (first | ((with_reducible refine gate_callee (f := 98) rfl ?_); refine goesL_ (some 15) rfl rfl Tryz.func98 p12z rfl #[.string a0, .int .i64 1] rfl p3z ?_; (with_reducible refine (ah.calls k a0 1 cG _ A6.out).mono ?_); rintro e w' ⟨rfl, ⟨nd, rfl⟩⟩; refine ⟨_, rfl, ?_⟩))
  go_ret
  exact ⟨p5z, p17z⟩
 rw [if_pos c9] at H
 have f5 : ((wrap64 (1 + cG)) == (a0.size : Int)) = true := beq_iff_eq.mpr c9
 have c9b1 : ((wrap64 (1 + cG)) != (a0.size : Int)) = false := bne_eq_false_iff_eq.mpr c9
 clear c9
 by_cases c10 : cG = 1
 case pos =>
  rw [if_pos c10] at H
  have eE : (cG == 1) = true := beq_iff_eq.mpr c10
  have jE : (cG != 1) = false := bne_eq_false_iff_eq.mpr c10
  clear c10
  obtain rfl := Option.some.inj H
  have p4 : 0 ≤ (0 : Int) := (by omega)
  have q4 : 0 < a0.size := p49z
  have hx4 : ∀ h : 0 < a0.size, ((a0[0]'h).toNat : Int) = bt a0 0 := bt_at a0 0
  clear p4
  have qi4 : (0 < (a0.size : Int)) = True := eq_true (of_decide_eq_true p4z)
  replace q4 := eq_true q4
  go_enter Tryz.func77, Tryz.ntmps77
  go_wp2_with (first | ((with_reducible refine gate_callee (f := 98) rfl ?_); refine goesL_ (some 15) rfl rfl Tryz.func98 p12z rfl #[.string a0, .int .i64 1] rfl p3z ?_; (with_reducible refine (ah.calls k a0 1 cG _ A6.out).mono ?_); rintro e w' ⟨rfl, ⟨nd, rfl⟩⟩; refine ⟨_, rfl, ?_⟩))
  go_ret
  exact ⟨p5z, p17z⟩
 rw [if_neg c10] at H
 have eE : (cG == 1) = false := beq_eq_false_iff_ne.mpr c10
 have jE : (cG != 1) = true := bne_iff_ne.mpr c10
 by_cases c11 : 1 < (a0.size : Int)
 case neg =>
  rw [if_neg c11] at H
  exact absurd H (by simp)
 rw [if_pos c11] at H
 have iH : decide (1 < (a0.size : Int)) = true := decide_eq_true c11
 have jF : decide (1 < a0.size) = true := decide_eq_true (by omega)
 clear c11
 obtain rfl := Option.some.inj H
 have p4 : 0 ≤ (0 : Int) := (by omega)
 have q4 : 0 < a0.size := p49z
 have hx4 : ∀ h : 0 < a0.size, ((a0[0]'h).toNat : Int) = bt a0 0 := bt_at a0 0
 clear p4
 have qi4 : (0 < (a0.size : Int)) = True := eq_true (of_decide_eq_true p4z)
 replace q4 := eq_true q4
 go_enter Tryz.func77, Tryz.ntmps77
 go_wp2_with (first | ((with_reducible refine gate_callee (f := 98) rfl ?_); refine goesL_ (some 15) rfl rfl Tryz.func98 p12z rfl #[.string a0, .int .i64 1] rfl p3z ?_; (with_reducible refine (ah.calls k a0 1 cG _ A6.out).mono ?_); rintro e w' ⟨rfl, ⟨nd, rfl⟩⟩; refine ⟨_, rfl, ?_⟩; have p12 : 0 ≤ (1 : Int) := (by omega); have q12 : 1 < a0.size := (by have : (1 : Int) < (a0.size : Int) := of_decide_eq_true p4z; omega); have hx12 : ∀ h : 1 < a0.size, ((a0[1]'h).toNat : Int) = bt a0 1 := bt_at a0 1; clear p12; have qi12 : (1 < (a0.size : Int)) = True := eq_true (of_decide_eq_true p4z); replace q12 := eq_true q12))
 go_ret
 exact ⟨p5z, p17z⟩
end Go.Proofs.YtodnggilomanbaaGreatDoor.PAll
end
section
-- Written by this repo's program wip/tools/pr.py (over the kit's print) out of the translation. Not trusted: Lean checks it.
set_option maxHeartbeats 8000000
set_option maxRecDepth 100000
namespace Go.Proofs.YtodnggilomanbaaGreatDoor.PAll
open Go.RowKit Go.Proofs.YtodnggilomanbaaGreatDoorW.PrintWords Go.Proofs.YtodnggilomanbaaGreatDoorW.PrintLast Go.Proofs.YtodnggilomanbaaGreatDoorW.PrintMore
attribute [local go_sem] max2_int min2_int max_two min_two max_three min_three max_four min_four   -- for this text's walks alone
set_option linter.unusedVariables false
set_option linter.unusedSimpArgs false

/-! ### au: function 47 -/
def au.l0 : Nat → List ByteArray → List ByteArray → Int → Option (Bool)
  | 0, _, _, _ => none
  | k + 1, x0, x1, x5 => if x5 < (x0.length : Int) then (if 0 ≤ x5 then (if x5 < (x1.length : Int) then (if (rdOf ByteArray.empty x0 x5).toList = (rdOf ByteArray.empty x1 x5).toList then (au.l0 k x0 x1 (wrap64 (x5 + 1))) else (some false)) else (none)) else (none)) else (some true)
def au.f (k : Nat) (l0 : List ByteArray) (l1 : List ByteArray) : Option (Bool) := if (l0.length : Int) = (l1.length : Int) then (au.l0 k l0 l1 0) else (some false)
theorem au.calls (k : Nat) (A0 : Option Addr) (c0 : Nat) (l0 : List ByteArray) (A1 : Option Addr) (c1 : Nat) (l1 : List ByteArray) (r : Bool) (w : World) (hr0 : Kd.C Kd.string w A0 l0.length l0) (hc0 : l0.length ≤ c0) (hr1 : Kd.C Kd.string w A1 l1.length l1) (hc1 : l1.length ≤ c1) (h : au.f k l0 l1 = some r) :
 Calls Tryz.prog 47 #[.slice A0 l0.length c0, .slice A1 l1.length c1] w fun e w' => e = .returned (.bool r) ∧ Drawn0 w w' := by
 have HR0 := Aside0.mk hr0
 have HC0 := Aside0.mk hc0
 clear hr0 hc0
 have HR1 := Aside0.mk hr1
 have HC1 := Aside0.mk hc1
 clear hr1 hc1
 have H : (if (l0.length : Int) = (l1.length : Int) then (au.l0 k l0 l1 0) else (some false)) = some r := h
 clear h
 by_cases c3 : (l0.length : Int) = (l1.length : Int)
 case neg =>
  rw [if_neg c3] at H
  have cW : ((l0.length : Int) == (l1.length : Int)) = false := beq_eq_false_iff_ne.mpr c3
  have ez : ((l0.length : Int) != (l1.length : Int)) = true := bne_iff_ne.mpr c3
  have jA : (l0.length == l1.length) = false := p127z
  obtain rfl := Option.some.inj H
  go_enter Tryz.func47, Tryz.ntmps47
  go_wp2
  repeat (go_quiet (fail); try go_wp2)
  go_ret
  exact ⟨p5z, p17z⟩
 rw [if_pos c3] at H
 have cW : ((l0.length : Int) == (l1.length : Int)) = true := beq_iff_eq.mpr c3
 have ez : ((l0.length : Int) != (l1.length : Int)) = false := bne_eq_false_iff_eq.mpr c3
 have jA : (l0.length == l1.length) = true := p127z
 clear c3
 have H' := Aside0.mk H
 clear H
 go_enter Tryz.func47, Tryz.ntmps47
 go_wp2
 repeat (go_quiet (fail); try go_wp2)
 go_loopg [5] k (fun kq v5 w' => ∃ (bP : Int), v5 = .int .i64 bP ∧ Aside0 (au.l0 kq l0 l1 bP = some r) ∧ Aside0 (kq ≤ k) ∧ Drawn0 w w')
 case atStart => exact ⟨(0), p5z, H', ⟨Nat.le_refl _⟩, p17z⟩
 case round =>
  clear H'
  try clear c1
  try clear cW
  try clear ez
  try clear jA
  obtain ⟨bP, rfl, HA, HK1, ⟨m1, rfl⟩⟩ := hrel
  cases gk with
  | zero => exact absurd HA.out (by simp [au.l0])
  | succ k1 =>
   have H := HA.out
   clear HA
   simp only [au.l0] at H
   by_cases c4 : bP < (l0.length : Int)
   case neg =>
    rw [if_neg c4] at H
    have dd : decide (bP < (l0.length : Int)) = false := decide_eq_false c4
    clear c4
    obtain rfl := Option.some.inj H
    go_wp2
    repeat (go_quiet (fail); try go_wp2)
    go_ret
    exact ⟨p5z, p17z⟩
   rw [if_pos c4] at H
   have dd : decide (bP < (l0.length : Int)) = true := decide_eq_true c4
   clear c4
   by_cases c5 : 0 ≤ bP
   case neg =>
    rw [if_neg c5] at H
    exact absurd H (by simp)
   rw [if_pos c5] at H
   have dE : decide (0 ≤ bP) = true := decide_eq_true c5
   clear c5
   by_cases c6 : bP < (l1.length : Int)
   case neg =>
    rw [if_neg c6] at H
    exact absurd H (by simp)
   rw [if_pos c6] at H
   have df : decide (bP < (l1.length : Int)) = true := decide_eq_true c6
   clear c6
   by_cases c7 : (rdOf ByteArray.empty l0 bP).toList = (rdOf ByteArray.empty l1 bP).toList
   case neg =>
    rw [if_neg c7] at H
    have fm : ((rdOf ByteArray.empty l0 bP).toList == (rdOf ByteArray.empty l1 bP).toList) = false := beq_eq_false_iff_ne.mpr c7
    have c7b1 : ((rdOf ByteArray.empty l0 bP).toList != (rdOf ByteArray.empty l1 bP).toList) = true := bne_iff_ne.mpr c7
    obtain rfl := Option.some.inj H
    have p101 : 0 ≤ (bP : Int) := of_decide_eq_true p4z
    have q101 : bP < (l0.length : Int) := of_decide_eq_true p4z
    obtain ⟨ad101, e101, hx101_0⟩ := Kd.at_string HR0.out bP p101 q101
    cases e101
    replace p101 := eq_true p101
    replace q101 := eq_true q101
    have p102 : 0 ≤ (bP : Int) := of_decide_eq_true p4z
    have q102 : bP < (l1.length : Int) := of_decide_eq_true p4z
    obtain ⟨ad102, e102, hx102_0⟩ := Kd.at_string HR1.out bP p102 q102
    cases e102
    replace p102 := eq_true p102
    replace q102 := eq_true q102
    go_wp2
    repeat (go_quiet (fail); try go_wp2)
    go_ret
    exact ⟨p5z, p17z⟩
   rw [if_pos c7] at H
   have fm : ((rdOf ByteArray.empty l0 bP).toList == (rdOf ByteArray.empty l1 bP).toList) = true := beq_iff_eq.mpr c7
   have c7b1 : ((rdOf ByteArray.empty l0 bP).toList != (rdOf ByteArray.empty l1 bP).toList) = false := bne_eq_false_iff_eq.mpr c7
   clear c7
   have H' := Aside0.mk H
   clear H
   have p101 : 0 ≤ (bP : Int) := of_decide_eq_true p4z
   have q101 : bP < (l0.length : Int) := of_decide_eq_true p4z
   obtain ⟨ad101, e101, hx101_0⟩ := Kd.at_string HR0.out bP p101 q101
   cases e101
   replace p101 := eq_true p101
   replace q101 := eq_true q101
   have p102 : 0 ≤ (bP : Int) := of_decide_eq_true p4z
   have q102 : bP < (l1.length : Int) := of_decide_eq_true p4z
   obtain ⟨ad102, e102, hx102_0⟩ := Kd.at_string HR1.out bP p102 q102
   cases e102
   replace p102 := eq_true p102
   replace q102 := eq_true q102
   go_wp2
   repeat (go_quiet (fail); try go_wp2)
   go_roundg k1
   case measure => have := HK1.out; omega
   case rel => exact ⟨(wrap64 (bP + 1)), p5z, H', ⟨p96z⟩, p17z⟩
end Go.Proofs.YtodnggilomanbaaGreatDoor.PAll
end
