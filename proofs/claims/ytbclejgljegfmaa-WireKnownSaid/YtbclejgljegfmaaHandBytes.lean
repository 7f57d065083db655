/-
  wire.Bytes: the walk.
-/
import Derived.Test.YtbclejgljegfmaaAp
import Derived.Test.YtbclejgljegfmaaHandChk
import Derived.Test.YtbclejgljegfmaaHandCatf
set_option maxHeartbeats 8000000
set_option maxRecDepth 100000
namespace Go.Proofs.Ytbclejgljegfmaa.Hand
open Go.RowKit Go.Proofs.YtbclejgljegfmaaW.PrintWords Go.Proofs.YtbclejgljegfmaaW.PrintLast Go.Proofs.YtbclejgljegfmaaW.PrintMore Go.Proofs.Ytbclejgljegfmaa.PAll
set_option linter.unusedVariables false
set_option linter.unusedSimpArgs false

theorem hinfo22 : (Try.prog.info? 22).map (fun i => (i.zero, i.size, i.bytes)) = some (some (.slice none 0 0), 1, 24) := p16z
def BytesAns (l0 : List S33) (w : World) : Ending → World → Prop := fun e w' => ∃ (v0_ : Value) (r1 : List Int) (r2 : Int), e = .returned (.tuple #[v0_, .int .i64 r2]) ∧ (r1, r2) = (if l0.all (fun r => decide (chk r = 0)) = true then (if (l0.flatMap S33.f4).length > 1048576 then ([], 5) else (l0.flatMap S33.f4, 0)) else ([], 2)) ∧ Kd.R (Kd.int .u8) 5 w' w.heap.size (fun _ => True) v0_ r1 ∧ Below w.heap.size w w'

theorem kV (A0 : Option Addr) (c0 : Nat) (l0 : List S33) (w : World) (hr0 : Kd.C k33 w A0 l0.length l0) (hc0 : l0.length ≤ c0) (hrec : l0.all isRec = true) (hlen : l0.length ≤ 1048576) :
 Calls Try.prog 39 #[.slice A0 l0.length c0] w (BytesAns l0 w) := by
 have hu33 := Try.underlying33
 have HR0 := Aside0.mk hr0
 have HREC := hid hrec
 clear hr0 hrec
 obtain ⟨i22, hi, hz0, hz1, hz2⟩ := info_parts hinfo22
 have hb24 : i22.bytes * l0.length ≤ 281474976710656 := by rw [hz2]; omega
 have HB := Aside0.mk (Below.refl w.heap.size w)
 go_enter Try.func39, Try.ntmps39
 go_wp2_with (refine wpList_make_full _ rfl _ _ 75 rfl w.heap.size 22 i22 (.slice none 0 0) 1 Try.underlying75 hi hz0 hz1 .i64 .i64 _ _ l0.length rfl rfl rfl rfl hb24 p245z (Nat.le_refl _) ?_; intro w1 hown hgrow)
 have HF := hid (Filled.start (w0 := w) (W := w1) (l := l0) hown rfl rfl)
 have HB1 := hid (show Below w.heap.size w w1 from HB.out.grown hgrow (Nat.le_refl _) (fun k hk => by cases hk))
 have HS := hid (show w.heap.size < w1.heap.size from HF.out.lt)
 have HT := hid (tot_le HREC.out)
 clear hown hgrow HB hb24
 go_loopw [5, 14] (fun x5 x14 W => ∃ i : Nat, x14 = .int .i64 (i : Int) ∧ i ≤ l0.length ∧ x5 = .int .i64 (tot l0 i : Int) ∧ Hid (∀ j x, j < i → l0[j]? = some x → chk x = 0) ∧ Hid (Filled w W w.heap.size l0.length i l0) ∧ Hid (Below w.heap.size w W))
  (fun _ x14 _ => l0.length - (intOf x14).toNat)
 case atStart => exact ⟨0, rfl, Nat.zero_le _, rfl, hid (fun j x hj => absurd hj (Nat.not_lt_zero _)), HF, HB1⟩
 case round =>
  obtain ⟨i, rfl, hil, rfl, HCK, HFI, HBI⟩ := hrel
  by_cases hlt : i < l0.length
  case neg =>
   obtain rfl : i = l0.length := by omega
   have hnl : ¬ ((l0.length : Int) < (l0.length : Int)) := by omega
   by_cases hbig : 1048576 < tot l0 l0.length
   case pos =>
    have hb : (1048576 : Int) < (tot l0 l0.length : Int) := by omega
    go_wp2
    go_ret2
    exact ⟨_, [], 5, rfl, by rw [if_pos (all_ok HCK.out), if_pos (by rw [← tot_all]; exact hbig)], Kd.R_nil _ _ _ _ _, HBI.out⟩
   have hb : ¬ ((1048576 : Int) < (tot l0 l0.length : Int)) := by omega
   have hpl : (l0.map S33.f4).length = l0.length := List.length_map ..
   have hfl : (l0.map S33.f4).flatten.length ≤ 1048576 := by rw [flat_map, ← tot_all]; omega
   have HCAT := hid (cat_f (l0.map S33.f4) (by rw [hpl]; exact hlen) hfl)
   have HROW := hid (HFI.out.row HBI.out (by omega))
   go_wp2_with fail
   have hcalls := Cat.am.calls _ (some ⟨w.heap.size, 0, none⟩) l0.length (l0.map S33.f4) _ wr HROW.out (by rw [hpl]; exact Nat.le_refl _) HCAT.out
   rw [hpl] at hcalls
   refine hcalls.mono ?_
   rintro e w2 ⟨v, rfl, hR, hb⟩
   go_wp2
   go_ret2
   refine ⟨v, l0.flatMap S33.f4, 0, rfl, by rw [if_pos (all_ok HCK.out), if_neg (by rw [← tot_all]; omega)], ?_, below_step HBI.out hb⟩
   rw [flat_map] at hR
   exact Kd.R_lower hR HBI.out.size
  have hx := rdT_eq l0 i hlt
  have HX := hid hx
  have hrx := fr (List.all_eq_true.1 HREC.out _ (List.mem_of_getElem? hx))
  have HRX := hid (List.all_eq_true.1 HREC.out _ (List.mem_of_getElem? hx))
  have HT1 := hid (HT.out i hil)
  have p1 : 0 ≤ (i : Int) := by omega
  have q1 : (i : Int) < (l0.length : Int) := by omega
  obtain ⟨ad, A3, c3, A4, c4, e1, h0, h1, h2, h3, h4, hl3, hi3, hl4, hi4⟩ := at_T33 HR0.out (i : Int) p1 q1
  cases e1
  replace h0 := (HBI.out.cell (World.block_lt_of_cell? w _ h0)).trans h0
  replace h1 := (HBI.out.cell (World.block_lt_of_cell? w _ h1)).trans h1
  replace h2 := (HBI.out.cell (World.block_lt_of_cell? w _ h2)).trans h2
  replace h3 := (HBI.out.cell (World.block_lt_of_cell? w _ h3)).trans h3
  replace h4 := (HBI.out.cell (World.block_lt_of_cell? w _ h4)).trans h4
  obtain ⟨x, hxe⟩ : ∃ x, x = rd_T33 l0 (i : Int) := ⟨_, rfl⟩
  rw [Int.toNat_natCast] at h0 h1 h2 h3 h4
  rw [← hxe] at h0 h1 h2 h3 h4 hl3 hi3 hl4 hi4 hx hrx HX HRX
  have HI3 := hid hi3
  have HL3 := hid hl3
  have HI4 := hid hi4
  have HL4 := hid hl4
  have HT2 := hid (tot_next HX.out)
  have hb4 := hrx.2.2.2
  clear hi3 hi4 hl3 hl4 hxe hx hrx
  replace p1 := eq_true p1
  replace q1 := eq_true q1
  have hck := hid (check_f HRX.out _ (Nat.le_refl _))
  go_wp2_with fail
  refine (bq.calls _ x.f0 x.f1 x.f2 A3 c3 x.f3 A4 c4 x.f4 (chk x) _ (Kd.C_alloc (Kd.C_below HI3.out HBI.out) _) HL3.out (Kd.C_alloc (Kd.C_below HI4.out HBI.out) _) HL4.out hck.out).mono ?_
  rintro e w2 ⟨rfl, hb⟩
  have hB2 := hid (below_step (below_alloc HBI.out (.cells #[.int .i64 x.f0, .int .i64 x.f1, .int .u64 x.f2, .slice A3 x.f3.length c3, .slice A4 x.f4.length c4] 33)) hb)
  obtain ⟨er, her⟩ : ∃ er, er = chk x := ⟨_, rfl⟩
  rw [← her]
  by_cases hz : er = 0
  case neg =>
   have z0 : (er == 0) = false := beq_eq_false_iff_ne.mpr hz
   have z1 : (er != 0) = true := bne_iff_ne.mpr hz
   have her2 : er = 2 := by rcases chk_cases x with h | h <;> omega
   subst her2
   have hno := not_ok HX.out (by rw [← her]; decide)
   clear hb her
   go_wp2
   go_ret2
   exact ⟨_, [], 2, rfl, by rw [hno]; rfl, Kd.R_nil _ _ _ _ _, hB2.out⟩
  have z0 : (er == 0) = true := beq_iff_eq.mpr hz
  have z1 : (er != 0) = false := bne_eq_false_iff_eq.mpr hz
  subst hz
  have hq : w2.cell? ⟨wr.heap.size, 4, none⟩ = some (.slice A4 x.f4.length c4) := by
   have hg := heap_alloc_new wr (.cells #[.int .i64 x.f0, .int .i64 x.f1, .int .u64 x.f2, .slice A3 x.f3.length c3, .slice A4 x.f4.length c4] 33)
   have := hb.block wr.heap.size (by simp)
   rw [hg] at this
   simp [World.cell?, this]
  have hF2 := hid ((HFI.out.move (heap_alloc_old wr (.cells #[.int .i64 x.f0, .int .i64 x.f1, .int .u64 x.f2, .slice A3 x.f3.length c3, .slice A4 x.f4.length c4] 33) HFI.out.lt)).move (hb.block _ (by have := HFI.out.lt; simp; omega)))
  obtain ⟨⟨u, hu⟩, hfz⟩ := hF2.out.cell hlt
  have hne : wr.heap.size ≠ w.heap.size := by have := HFI.out.lt; omega
  have hne2 : w.heap.size ≠ wr.heap.size := Ne.symm hne
  have HB0 := hid hb
  have HER := hid her
  clear hb her
  have hs1 : wrap64 ((tot l0 i : Int) + (x.f4.length : Int)) = ((tot l0 i + x.f4.length : Nat) : Int) := by unfold wrap64; have := HT1.out; omega
  have hs2 : wrap64 ((i : Int) + 1) = ((i + 1 : Nat) : Int) := p236z
  go_wp2_with fail
  refine ⟨⟨i + 1, by rw [Int.natCast_add]; rfl, hlt, by rw [hs1, HT2.out], hid ?_, hid (hF2.out.put hlt HX.out HL4.out HI4.out), hid (below_set hB2.out (Nat.le_refl _))⟩, by simp only [intOf]; omega⟩
  intro j y hj hy
  by_cases he : j = i
  case neg =>
   exact HCK.out j y (by omega) hy
  subst he
  have := HX.out
  rw [this] at hy
  cases hy
  exact HER.out.symm
def dM.f (l0 : List S33) : Option (List Int × Int) := if l0.all isRec = true ∧ l0.length ≤ 1048576 then
  some (if l0.all (fun r => decide (chk r = 0)) = true then (if (l0.flatMap S33.f4).length > 1048576 then ([], 5) else (l0.flatMap S33.f4, 0)) else ([], 2)) else none
theorem dM.calls (A0 : Option Addr) (c0 : Nat) (l0 : List (S33)) (r1 : List Int) (r2 : Int) (w : World) (hr0 : Kd.C k33 w A0 l0.length l0) (hc0 : l0.length ≤ c0) (h : dM.f l0 = some (r1, r2)) :
 Calls Try.prog 39 #[.slice A0 l0.length c0] w fun e w' => ∃ v0_ : Value, e = .returned (.tuple #[v0_, .int .i64 r2]) ∧ Kd.R (Kd.int .u8) 5 w' w.heap.size (fun _ => True) v0_ r1 ∧ Below w.heap.size w w' := by
 unfold dM.f at h
 split at h
 ·rename_i hh
  have h2 := Option.some.inj h
  refine (kV A0 c0 l0 w hr0 hc0 hh.1 hh.2).mono ?_
  rintro e w' ⟨v, q1, q2, rfl, hq, hR, hb⟩
  have h3 := hq.trans h2
  simp only [Prod.mk.injEq] at h3
  obtain ⟨rfl, rfl⟩ := h3
  exact ⟨v, rfl, hR, hb⟩
 ·cases h
end Go.Proofs.Ytbclejgljegfmaa.Hand
