/-
  jtree's reader: key: the walk.
-/
import Derived.Test.YtodnggilomanbaaGreatDoorHandWord5
import Derived.Test.YtodnggilomanbaaGreatDoorHandBa
set_option maxRecDepth 100000
set_option maxHeartbeats 4000000
namespace Go.Proofs.YtodnggilomanbaaGreatDoor.Hand
open Go.RowKit Go.Lib Go.Proofs.YtodnggilomanbaaGreatDoorW.PrintWords Go.Proofs.YtodnggilomanbaaGreatDoorW.PrintMore Go.Proofs.YtodnggilomanbaaGreatDoor.PAll
set_option linter.unusedVariables false
set_option linter.unusedSimpArgs false

theorem strs_of_C {w : World} {A : Option Addr} {l : List ByteArray} (h : Kd.string.C w A l.length l) : ∀ b, A = some b → ∀ j u, (l.map Value.string)[j]? = some u → w.cell? (b.add j) = some u := by
 intro b hb j u hu
 subst hb
 have hj : j < l.length := by
  rcases Nat.lt_or_ge j l.length with h' | h'
  ·exact h'
  ·rw [List.getElem?_eq_none (by simpa using h')] at hu
   cases hu
 have := Kd.foot_string h (j : Int) (by omega) (by omega)
 rw [Int.toNat_natCast] at this
 rw [this, ← hu]
 simp [rdOf, List.getElem?_map, List.getElem?_eq_getElem hj, List.getD_eq_getElem?_getD]
theorem dm (A : Option Addr) (c : Nat) (l : List ByteArray) (x : ByteArray) (W : World) (hC : Kd.string.C W A l.length l) (hl : l.length ≤ 1099511627776) :
 Calls Tryz.prog 117 #[.slice A l.length c, .string x] W fun e w' => e = .returned (.bool (Lib.containsS l x)) ∧ w' = W := by
 rcases l with _ | ⟨y, l⟩
 ·exact Tryz.slices_Contains_string_empty A c x W
 ·obtain ⟨ad, rfl, hcc⟩ := hC.2.2 (by simp)
  have hcells := strs_of_C hC ad rfl
  have h0 := hcells 0 (.string y) (by simp)
  obtain ⟨b, off, sp⟩ := ad
  have hsp : sp = none := by
   cases sp with
   | none => rfl
   | some q => simp [World.cell?, Addr.add] at h0; split at h0 <;> simp at h0
  subst hsp
  have := Tryz.slices_Contains_string b off (y :: l).length c (y :: l) x W (Nat.le_refl _) (by omega) (fun j hj => by
   have := hcells j (.string ((y :: l).getD j ByteArray.empty)) (by rw [List.getElem?_map, List.getElem?_eq_getElem hj, List.getD_eq_getElem?_getD, List.getElem?_eq_getElem hj]; rfl)
   have ha : (⟨b, off, none⟩ : Addr).add j = ⟨b, off + j, none⟩ := by unfold Addr.add; split <;> simp_all
   rwa [ha] at this)
  rw [List.take_length] at this
  exact this
theorem wordF_bd {s : ByteArray} : ∀ {t : List Int} {x y : Int}, 0 ≤ x → x ≤ (s.size : Int) → wordF s t x = .ok y → x ≤ y ∧ y ≤ (s.size : Int)
 | [], x, y, h0, h1, h => by
  rw [wordF] at h
  cases h
  exact ⟨Int.le_refl _, h1⟩
 | c :: t, x, y, h0, h1, h => by
  rw [wordF] at h
  split at h
  ·cases h
  ·split at h
   ·have := wordF_bd (by omega) (by omega) h
    omega
   ·cases h
theorem strF_bd {s : ByteArray} {x y : Int} {o : ByteArray} (h0 : 0 ≤ x) (h1 : x ≤ (s.size : Int)) (h : strF s x = .ok (o, y)) : x ≤ y ∧ y ≤ (s.size : Int) := by
 unfold strF at h
 rw [word1 h1] at h
 split at h
 ·rename_i p hp
  cases h
 ·rename_i z hz
  split at hz
  ·rename_i hx
   cases hz
   have hE := endF_le (s := s) (y := x + 1) (by omega) (by omega) rfl
   split at h
   ·cases h
   ·cases h
   ·split at h
    ·split at h
     ·cases h
      omega
     ·cases h
    ·cases h
  ·cases hz
/-- A key that is none of some. -/
def keyF (s : ByteArray) (had : List ByteArray) (x : Int) : Except Int (ByteArray × Int) := match strF s (blanksF s x) with
  | .error p => .error p
  | .ok (k, y) => if Lib.containsS had k = true then .error (blanksF s x) else match wordF s [58] (blanksF s y) with
    | .error p => .error p
    | .ok z => .ok (k, z)
theorem keyF_bd {s : ByteArray} {had : List ByteArray} {x y : Int} {o : ByteArray} (h0 : 0 ≤ x) (h1 : x ≤ (s.size : Int)) (h : keyF s had x = .ok (o, y)) : x ≤ y ∧ y ≤ (s.size : Int) := by
 unfold keyF at h
 have hb := ca h0 h1
 split at h
 ·cases h
 ·rename_i k z hs
  have hz := strF_bd (by omega) (by omega) hs
  have hb2 := ca (s := s) (x := z) (by omega) (by omega)
  split at h
  ·cases h
  ·split at h
   ·cases h
   ·rename_i v hv
    cases h
    have := wordF_bd (by omega) (by omega) hv
    omega
theorem key_calls (g : Nat) (s : ByteArray) (x many deep : Int) (A : Option Addr) (c : Nat) (had : List ByteArray) (w0 w : World) (hI : IsS67 w0 w g s x many deep) (hB : Below w0.heap.size w0 w) (h0 : 0 ≤ x) (h1 : x ≤ (s.size : Int)) (hs : s.size ≤ 1073741824) (HTAB : Tabs w0)
 (hC : ∀ W', KeepBut w W' g none → Kd.string.C W' A had.length had) (hl : had.length ≤ 1099511627776) :
 Calls Tryz.prog 103 #[.pointer (some ⟨g, 0, none⟩), .slice A had.length c] w fun e w' => StrOut w0 w w' g s many deep (keyF s had x) e := by
 obtain ⟨r, hr⟩ : ∃ r, keyF s had x = r := ⟨_, rfl⟩
 rw [hr]
 unfold keyF at hr
 have hbl := cx g s x many deep w0 w hI hB h0 h1 (by omega)
 have hbd := ca h0 h1
 obtain ⟨y, hy⟩ : ∃ y, blanksF s x = y := ⟨_, rfl⟩
 rw [hy] at hr hbl hbd
 have y0 : 0 ≤ y := by omega
 have y1 := hbd.2
 clear hbd
 rcases hst : strF s y with p | ⟨k, z⟩
 ·rw [hst] at hr
  simp only at hr
  have HRX := hid hr
  clear hr
  go_enter Tryz.func103, Tryz.ntmps103
  go_wp2_with (first
   | (go_at_call 30; refine hbl.mono ?_; rintro e w1 ⟨rfl, hi1, hb1, hk1⟩; have hc1 := cellS67_1 hi1.1; have hcall := str_err hi1 hb1 y0 y1 hs HTAB hst; have HI1 := hid (And.intro hi1 (And.intro hb1 hk1)); clear hi1 hb1 hk1)
   | (go_at_call 85; refine hcall.mono ?_; rintro e w2 ⟨rfl, hb2⟩))
  exact ⟨rfl, by rw [← HRX.out]; exact ⟨rfl, hb2⟩⟩
 ·rw [hst] at hr
  simp only at hr
  have hzb := strF_bd y0 y1 hst
  have z0 : 0 ≤ z := by omega
  have z1 := hzb.2
  clear hzb
  by_cases hin : Lib.containsS had k = true
  case pos =>
   rw [if_pos hin] at hr
   have HRX := hid hr
   clear hr
   go_enter Tryz.func103, Tryz.ntmps103
   go_wp2_with (first
    | (go_at_call 30; refine hbl.mono ?_; rintro e w1 ⟨rfl, hi1, hb1, hk1⟩; have hc1 := cellS67_1 hi1.1; have hcall := str_ok hi1 hb1 y0 y1 hs HTAB hst; have HI1 := hid (And.intro hi1 (And.intro hb1 hk1)); clear hi1 hb1 hk1)
    | (go_at_call 85; refine hcall.mono ?_; rintro e w2 ⟨rfl, hi2, hb2, hk2⟩; have hcn := dm A c had k w2 (hC w2 (HI1.out.2.2.trans hk2 (.inl rfl))) hl; rw [hin] at hcn)
    | (go_at_call 117; refine hcn.mono ?_; rintro e w3 ⟨rfl, rfl⟩)
    | (go_at_call 31; refine (bE _ _ _).mono ?_; rintro e w' ⟨rfl, rfl⟩))
   exact ⟨rfl, by rw [← HRX.out]; exact ⟨rfl, hb2⟩⟩
  rw [if_neg hin] at hr
  have hin' : Lib.containsS had k = false := by simpa using hin
  clear hin
  have hbd2 := ca z0 z1
  obtain ⟨v, hv⟩ : ∃ v, blanksF s z = v := ⟨_, rfl⟩
  rw [hv] at hr hbd2
  have v0 : 0 ≤ v := by omega
  have v1 := hbd2.2
  clear hbd2
  rcases hwd : wordF s [58] v with p | q
  ·rw [hwd] at hr
   simp only at hr
   have HRX := hid hr
   clear hr
   go_enter Tryz.func103, Tryz.ntmps103
   go_wp2_with (first
    | (go_at_call 30; first
     | (refine hbl.mono ?_; rintro e w1 ⟨rfl, hi1, hb1, hk1⟩; have hc1 := cellS67_1 hi1.1; have hcall := str_ok hi1 hb1 y0 y1 hs HTAB hst; have HI1 := hid (And.intro hi1 (And.intro hb1 hk1)); clear hi1 hb1 hk1)
     | (refine hbl2.mono ?_; rintro e w4 ⟨rfl, hi4, hb4, hk4⟩; rw [hv] at hi4; have hcall4 := word_err (t := ⟨#[58]⟩) hi4 hb4 v0 v1 (by omega) (by decide) hwd))
    | (go_at_call 85; refine hcall.mono ?_; rintro e w2 ⟨rfl, hi2, hb2, hk2⟩; have hcn := dm A c had k w2 (hC w2 (HI1.out.2.2.trans hk2 (.inl rfl))) hl; rw [hin'] at hcn; have hbl2 := cx g s z many deep w0 w2 hi2 hb2 z0 z1 (by omega))
    | (go_at_call 117; refine hcn.mono ?_; rintro e w3 ⟨rfl, rfl⟩)
    | (go_at_call 84; refine hcall4.mono ?_; rintro e w5 ⟨rfl, hb5⟩))
   exact ⟨rfl, by rw [← HRX.out]; exact ⟨rfl, hb5⟩⟩
  ·rw [hwd] at hr
   simp only at hr
   have HRX := hid hr
   clear hr
   go_enter Tryz.func103, Tryz.ntmps103
   go_wp2_with (first
    | (go_at_call 30; first
     | (refine hbl.mono ?_; rintro e w1 ⟨rfl, hi1, hb1, hk1⟩; have hc1 := cellS67_1 hi1.1; have hcall := str_ok hi1 hb1 y0 y1 hs HTAB hst; have HI1 := hid (And.intro hi1 (And.intro hb1 hk1)); clear hi1 hb1 hk1)
     | (refine hbl2.mono ?_; rintro e w4 ⟨rfl, hi4, hb4, hk4⟩; rw [hv] at hi4; have hcall4 := word_ok (t := ⟨#[58]⟩) hi4 hb4 v0 v1 (by omega) (by decide) hwd))
    | (go_at_call 85; refine hcall.mono ?_; rintro e w2 ⟨rfl, hi2, hb2, hk2⟩; have hcn := dm A c had k w2 (hC w2 (HI1.out.2.2.trans hk2 (.inl rfl))) hl; rw [hin'] at hcn; have hbl2 := cx g s z many deep w0 w2 hi2 hb2 z0 z1 (by omega))
    | (go_at_call 117; refine hcn.mono ?_; rintro e w3 ⟨rfl, rfl⟩)
    | (go_at_call 84; refine hcall4.mono ?_; rintro e w5 ⟨rfl, hi5, hb5, hk5⟩))
   go_ret
   rw [← HRX.out]
   exact ⟨rfl, hi5, hb5, (((HI1.out.2.2.trans hk2 (.inl rfl)).trans hk4 (.inl rfl)).trans hk5 (.inl rfl))⟩
end Go.Proofs.YtodnggilomanbaaGreatDoor.Hand
