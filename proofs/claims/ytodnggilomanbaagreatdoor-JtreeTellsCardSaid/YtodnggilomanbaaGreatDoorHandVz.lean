/-
  utf8.word of a slice of bytes: the walk (turned from the shelf's walk over a string). utf8.Valid of a slice of bytes: the walk (turned from the shelf's walk over a string). text.Valid: the walk.
-/
import Derived.Test.YtodnggilomanbaaGreatDoorAp
import Derived.Test.YtodnggilomanbaaGreatDoorHandAa
import Derived.Shelf.Unicode.ValidAny
import Derived.Lib.ValidAsc
import Derived.Deep.DeepMust
import Derived.Deep.DeepBigQuietO
import Derived.Deep.CutBlock
import Derived.Deep.DeepCutAuto
section
set_option maxHeartbeats 8000000
set_option maxRecDepth 1000000
namespace Go.Proofs.YtodnggilomanbaaGreatDoor.Hand
open Go.RowKit Go.Lib Go.Proofs.YtodnggilomanbaaGreatDoorW.PrintWords
set_option linter.unusedVariables false
set_option linter.unusedSimpArgs false

theorem word_sl (b o c : Nat) (s : ByteArray) (w : World) (hs : 8 ≤ s.size) (hc : ∀ j, j < s.size → w.cell? ⟨b, o + j, none⟩ = some (.int .u8 ((s.get! j).toNat : Nat))) :
    Calls Tryz.prog 121 #[.slice (some ⟨b, o, none⟩) s.size c] w fun e w' => e = .returned (.int .u64 (Lib.leNat [s.get! 0, s.get! 1, s.get! 2, s.get! 3, s.get! 4, s.get! 5, s.get! 6, s.get! 7])) ∧ ∃ q, w' = w.drewN q := by
  obtain ⟨x0, hx0⟩ : ∃ x0, s.get! 0 = x0 := ⟨_, rfl⟩
  have hs0 : w.cell? ⟨b, o, none⟩ = some (.int .u8 (x0.toNat : Nat)) := by have := hc 0 (by omega); rwa [hx0] at this
  have h0 : x0.toNat < 256 := x0.toNat_lt
  obtain ⟨x1, hx1⟩ : ∃ x1, s.get! 1 = x1 := ⟨_, rfl⟩
  have hs1 : w.cell? ⟨b, o + 1, none⟩ = some (.int .u8 (x1.toNat : Nat)) := by have := hc 1 (by omega); rwa [hx1] at this
  have h1 : x1.toNat < 256 := x1.toNat_lt
  obtain ⟨x2, hx2⟩ : ∃ x2, s.get! 2 = x2 := ⟨_, rfl⟩
  have hs2 : w.cell? ⟨b, o + 2, none⟩ = some (.int .u8 (x2.toNat : Nat)) := by have := hc 2 (by omega); rwa [hx2] at this
  have h2 : x2.toNat < 256 := x2.toNat_lt
  obtain ⟨x3, hx3⟩ : ∃ x3, s.get! 3 = x3 := ⟨_, rfl⟩
  have hs3 : w.cell? ⟨b, o + 3, none⟩ = some (.int .u8 (x3.toNat : Nat)) := by have := hc 3 (by omega); rwa [hx3] at this
  have h3 : x3.toNat < 256 := x3.toNat_lt
  obtain ⟨x4, hx4⟩ : ∃ x4, s.get! 4 = x4 := ⟨_, rfl⟩
  have hs4 : w.cell? ⟨b, o + 4, none⟩ = some (.int .u8 (x4.toNat : Nat)) := by have := hc 4 (by omega); rwa [hx4] at this
  have h4 : x4.toNat < 256 := x4.toNat_lt
  obtain ⟨x5, hx5⟩ : ∃ x5, s.get! 5 = x5 := ⟨_, rfl⟩
  have hs5 : w.cell? ⟨b, o + 5, none⟩ = some (.int .u8 (x5.toNat : Nat)) := by have := hc 5 (by omega); rwa [hx5] at this
  have h5 : x5.toNat < 256 := x5.toNat_lt
  obtain ⟨x6, hx6⟩ : ∃ x6, s.get! 6 = x6 := ⟨_, rfl⟩
  have hs6 : w.cell? ⟨b, o + 6, none⟩ = some (.int .u8 (x6.toNat : Nat)) := by have := hc 6 (by omega); rwa [hx6] at this
  have h6 : x6.toNat < 256 := x6.toNat_lt
  obtain ⟨x7, hx7⟩ : ∃ x7, s.get! 7 = x7 := ⟨_, rfl⟩
  have hs7 : w.cell? ⟨b, o + 7, none⟩ = some (.int .u8 (x7.toNat : Nat)) := by have := hc 7 (by omega); rwa [hx7] at this
  have h7 : x7.toNat < 256 := x7.toNat_lt
  rw [hx0, hx1, hx2, hx3, hx4, hx5, hx6, hx7]
  have hv : ((Lib.leNat [x0, x1, x2, x3, x4, x5, x6, x7] : Nat) : Int) = (x0.toNat : Int) + (x1.toNat : Int) * 256 + (x2.toNat : Int) * 65536 + (x3.toNat : Int) * 16777216 + (x4.toNat : Int) * 4294967296 + (x5.toNat : Int) * 1099511627776 + (x6.toNat : Int) * 281474976710656 + (x7.toNat : Int) * 72057594037927936 := by
    simp only [Lib.leNat]
    push_cast
    omega
  have q0 : (0 : Int) < (s.size : Int) := by omega
  have p0 : 0 < s.size := by omega
  have q1 : (1 : Int) < (s.size : Int) := by omega
  have p1 : 1 < s.size := by omega
  have q2 : (2 : Int) < (s.size : Int) := by omega
  have p2 : 2 < s.size := by omega
  have q3 : (3 : Int) < (s.size : Int) := by omega
  have p3 : 3 < s.size := by omega
  have q4 : (4 : Int) < (s.size : Int) := by omega
  have p4 : 4 < s.size := by omega
  have q5 : (5 : Int) < (s.size : Int) := by omega
  have p5 : 5 < s.size := by omega
  have q6 : (6 : Int) < (s.size : Int) := by omega
  have p6 : 6 < s.size := by omega
  have q7 : (7 : Int) < (s.size : Int) := by omega
  have p7 : 7 < s.size := by omega
  clear hc
  have mixed : Tryz.prog.follows Departure.mixedOrders = true := p12z
  go_enter Tryz.func121, Tryz.ntmps121
  go_wp2
  go_quiet_o (fail)
  go_wp2
  go_ret
  refine ⟨?_, _, rfl⟩
  simp (disch := omega) only [u64_wrap_id, u64_or8, u64_or16, u64_or24, u64_or32, u64_or40, u64_or48, u64_or56]
  rw [hv]
  rfl
end Go.Proofs.YtodnggilomanbaaGreatDoor.Hand
end
section
set_option maxHeartbeats 16000000
set_option maxRecDepth 1000000
namespace Go.Proofs.YtodnggilomanbaaGreatDoor.Hand
open Go.RowKit Go.Lib Go.Proofs.YtodnggilomanbaaGreatDoorW.PrintWords
set_option linter.unusedVariables false
set_option linter.unusedSimpArgs false
def CellsAt (W : World) (b o : Nat) (t : ByteArray) : Prop := ∀ j, j < t.size → W.cell? ⟨b, o + j, none⟩ = some (.int .u8 ((t.get! j).toNat : Nat))
def SL (w : World) (b : Nat) (v : Value) (t : ByteArray) : Prop := ∃ o, v = .slice (some ⟨b, o, none⟩) t.size t.size ∧ Hid (CellsAt w b o t)
theorem cell_lt {w : World} {a : Addr} {v : Value} (hc : w.cell? a = some v) : a.block < w.heap.size := by
 rcases Nat.lt_or_ge a.block w.heap.size with h' | h'
 ·exact h'
 ·simp [World.cell?, Array.getElem?_eq_none h'] at hc
theorem cells_ext {w : World} {b o : Nat} {t : ByteArray} (h : CellsAt w b o t) (k : Nat) (hk : k ≤ t.size) : CellsAt w b (o + k) (t.extract k t.size) := by
  intro j hj
  rw [Lib.ext_size] at hj
  have e : (t.extract k t.size).get! j = t.get! (k + j) := by
    rw [Utf8W.get!_of_lt _ j (by rw [Lib.ext_size]; exact hj), Utf8W.get!_of_lt t (k + j) (by omega)]
    exact ByteArray.getElem_extract ..
  rw [e, Nat.add_assoc]
  exact h (k + j) (by omega)
theorem cK {w W : World} {b o : Nat} {t : ByteArray} (hb : b < w.heap.size) (hW : Below w.heap.size w W) (h : CellsAt w b o t) : CellsAt W b o t := fun j hj => (hW.cell hb).trans (h j hj)
theorem rel_sl {w : World} {b o : Nat} {t : ByteArray} (h : Hid (CellsAt w b o t)) {oo n m : Nat} (hn : n = t.size) (hm : m = t.size) (ho : oo = o ∨ t.size = 0) : SL w b (.slice (some ⟨b, oo, none⟩) n m) t := by
 subst hn hm
 refine ⟨oo, rfl, ?_⟩
 rcases ho with rfl | h0
 ·exact h
 ·exact hid (fun j hj => by omega)
theorem ik (b o0 c0 : Nat) (s : ByteArray) (w : World) (hs : s.size ≤ 9223372036854775807) (hT : Lib.Utf8Tabs 1 2 w) (hb : b < w.heap.size) (hc : CellsAt w b o0 s) (hcap : s.size ≤ c0) :
 Calls Tryz.prog 110 #[.slice (some ⟨b, o0, none⟩) s.size c0] w fun e w' => e = .returned (.bool (Lib.validD s.data.toList)) ∧ Below w.heap.size w w' := by
 have mixed : Tryz.prog.follows Departure.mixedOrders = true := p12z
 obtain ⟨ANS, hANS⟩ : ∃ ANS, Lib.validD s.data.toList = ANS := ⟨_, rfl⟩
 rw [hANS]
 go_enter Tryz.func110, Tryz.ntmps110
 go_wp2
 go_loopg [0] (s.size + 1) (fun gk s0 wx => Below w.heap.size w wx ∧ ∃ t : ByteArray, SL w b s0 t ∧ Lib.validD t.data.toList = ANS ∧ t.size < gk ∧ t.size ≤ 9223372036854775807)
 case atStart => exact ⟨Below.refl _ _, s, ⟨o0, rfl, hid hc⟩, hANS, by omega, hs⟩
 case round =>
  obtain ⟨hbw, t, ⟨o, rfl, hct⟩, hv, hg, hts⟩ := hrel
  have hbwr : b < wr.heap.size := Nat.lt_of_lt_of_le hb hbw.size
  clear hANS
  have hTr := Utf8Tabs_below hT hbw
  by_cases h0 : 0 < t.size
  case neg =>
   have h0z : ¬ ((0 : Int) < (t.size : Int)) := by omega
   have ht0 : t.data.toList = [] := List.eq_nil_of_length_eq_zero (by rw [← Lib.size_eq]; omega)
   rw [ht0, Lib.validD_nil] at hv
   subst hv
   go_wp2
   go_ret
   exact ⟨rfl, hbw⟩

  obtain ⟨g', rfl⟩ : ∃ g', gk = g' + 1 := ⟨gk - 1, by omega⟩
  have h0z : (0 : Int) < (t.size : Int) := by omega
  obtain ⟨x0, hx0⟩ : ∃ x0, t.get! 0 = x0 := ⟨_, rfl⟩
  have hs0 : wr.cell? ⟨b, o, none⟩ = some (.int .u8 (x0.toNat : Nat)) := by rw [← hx0]; exact (hbw.cell hb).trans (hct.out 0 (by omega))
  have hx0lt : x0.toNat < 256 := x0.toNat_lt
  by_cases hasc : x0.toNat < 128
  case neg =>
   as_aux_lemma =>
   have hge : 128 ≤ x0.toNat := by omega
   have hascz : ¬ ((x0.toNat : Int) < 128) := by omega
   obtain ⟨x1, hx1⟩ : ∃ x1, t.get! 1 = x1 := ⟨_, rfl⟩
   obtain ⟨x2, hx2⟩ : ∃ x2, t.get! 2 = x2 := ⟨_, rfl⟩
   obtain ⟨x3, hx3⟩ : ∃ x3, t.get! 3 = x3 := ⟨_, rfl⟩
   have l1 := x1.toNat_lt; have l2 := x2.toNat_lt; have l3 := x3.toNat_lt
   have hne : t.data.toList ≠ [] := fun h => by rw [Lib.size_eq, h] at h0; simp at h0
   have hlead := Lib.validD_lead t.data.toList hne (by rw [Lib.getD_get!', hx0]; exact hge)
   rw [Lib.getD_get!', Lib.getD_get!', Lib.getD_get!', Lib.getD_get!', hx0, hx1, hx2, hx3, ← Lib.size_eq, hv] at hlead
   have hc0 := hTr.1 x0.toNat hx0lt
   have hXlt : Lib.firstT x0.toNat < 256 := by rcases Lib.firstT_cases x0.toNat with h | h | h | h | h | h | h | h | h <;> omega
   obtain ⟨X, hX⟩ : ∃ X, Lib.firstT x0.toNat = X := ⟨_, rfl⟩
   rw [hX] at hc0 hXlt hlead
   have h7 := and7 ⟨X, hXlt⟩
   simp only at h7
   have ha0 : wr.cell? ⟨2, X / 16 * 2, none⟩ = some (.int .u8 (Lib.accLo (X / 16))) := by rw [Nat.mul_comm]; exact (hTr.2 (X / 16) (by omega)).1
   have ha1 : wr.cell? ⟨2, X / 16 * 2 + 1, none⟩ = some (.int .u8 (Lib.accHi (X / 16))) := by rw [Nat.mul_comm]; exact (hTr.2 (X / 16) (by omega)).2
   obtain ⟨LO, hLO⟩ : ∃ LO, Lib.accLo (X / 16) = LO := ⟨_, rfl⟩
   obtain ⟨HI, hHI⟩ : ∃ HI, Lib.accHi (X / 16) = HI := ⟨_, rfl⟩
   rw [hLO] at ha0 hlead
   rw [hHI] at ha1 hlead
   obtain ⟨SZ, hSZ⟩ : ∃ SZ, X % 8 = SZ := ⟨_, rfl⟩
   rw [hSZ] at hlead
   clear hTr hT hX hv hLO hHI hne
   by_cases s2 : SZ = 2
   ·as_aux_lemma =>
    subst s2
    have hSZz : (X : Int) % 8 = 2 := by omega
    simp only [Lib.checkN, Nat.reduceEqDiff, if_true, if_false] at hlead
    go_upto_region 18 with fail
    go_cut [103] from 85 to 103 (fun c wx => c = .bool (decide (t.size < 2 ∨ x1.toNat < LO ∨ HI < x1.toNat)) ∧ Below w.heap.size w wx)
    case first =>
     by_cases q0 : t.size < 2
     case pos =>
      have q0z : (t.size : Int) < 2 := by omega
      go_big_quiet (fail)
      go_wp2
      go_meet
      exact ⟨congrArg Value.bool (decide_eq_true (p := t.size < 2 ∨ x1.toNat < LO ∨ HI < x1.toNat) (by omega)).symm, below_drewNv (hbw.alloc hbw.size _) _⟩
     have q0z : ¬ ((t.size : Int) < 2) := by omega
     have hz1 : (1 : Int) < (t.size : Int) := by omega
     have hp1 : 1 < t.size := by omega
     have hs1 : wr.cell? ⟨b, o + 1, none⟩ = some (.int .u8 (x1.toNat : Nat)) := by rw [← hx1]; exact (hbw.cell hb).trans (hct.out 1 (by omega))
     by_cases q1 : x1.toNat < LO
     case pos =>
      have q1z : (x1.toNat : Int) < (LO : Int) := by omega
      go_big_quiet (fail)
      go_wp2
      go_meet
      exact ⟨congrArg Value.bool (decide_eq_true (p := t.size < 2 ∨ x1.toNat < LO ∨ HI < x1.toNat) (by omega)).symm, below_drewNv (hbw.alloc hbw.size _) _⟩
     have q1z : ¬ ((x1.toNat : Int) < (LO : Int)) := by omega
     by_cases q2 : HI < x1.toNat
     case pos =>
      have q2z : (HI : Int) < (x1.toNat : Int) := by omega
      go_big_quiet (fail)
      go_wp2
      go_meet
      exact ⟨congrArg Value.bool (decide_eq_true (p := t.size < 2 ∨ x1.toNat < LO ∨ HI < x1.toNat) (by omega)).symm, below_drewNv (hbw.alloc hbw.size _) _⟩
     have q2z : ¬ ((HI : Int) < (x1.toNat : Int)) := by omega
     go_big_quiet (fail)
     go_wp2
     go_meet
     exact ⟨congrArg Value.bool (decide_eq_false (p := t.size < 2 ∨ x1.toNat < LO ∨ HI < x1.toNat) (by omega)).symm, below_drewNv (hbw.alloc hbw.size _) _⟩
    case rest =>
     obtain ⟨rfl, hbc⟩ := hcut
     by_cases hb : t.size < 2 ∨ x1.toNat < LO ∨ HI < x1.toNat
     case pos =>
      have hbd : decide (t.size < 2 ∨ x1.toNat < LO ∨ HI < x1.toNat) = true := decide_eq_true hb
      rw [if_pos hb] at hlead
      go_wp2
      all_goals (go_ret; exact ⟨by first | rfl | rw [hlead], hbc⟩)
     have hbd : decide (t.size < 2 ∨ x1.toNat < LO ∨ HI < x1.toNat) = false := decide_eq_false hb
     rw [if_neg hb] at hlead
     go_wp2
     all_goals
      go_roundg g'
      case measure => omega
      case rel => exact ⟨hbc, t.extract 2 t.size, rel_sl (hid (cells_ext hct.out 2 (by omega))) p128z p128z (by first | exact Or.inl rfl | (rw [Lib.ext_size]; omega)), by rw [Lib.ext_list, hlead], by rw [Lib.ext_size]; omega, by rw [Lib.ext_size]; omega⟩
   by_cases s3 : SZ = 3
   ·as_aux_lemma =>
    subst s3
    have hSZz : (X : Int) % 8 = 3 := by omega
    simp only [Lib.checkN, Nat.reduceEqDiff, if_true, if_false] at hlead
    go_upto_region 22 with fail
    go_cut [138] from 108 to 138 (fun c wx => c = .bool (decide (t.size < 3 ∨ x1.toNat < LO ∨ HI < x1.toNat ∨ x2.toNat < 128 ∨ 191 < x2.toNat)) ∧ Below w.heap.size w wx)
    case first =>
     by_cases q0 : t.size < 3
     case pos =>
      have q0z : (t.size : Int) < 3 := by omega
      go_big_quiet (fail)
      go_wp2
      go_meet
      exact ⟨congrArg Value.bool (decide_eq_true (p := t.size < 3 ∨ x1.toNat < LO ∨ HI < x1.toNat ∨ x2.toNat < 128 ∨ 191 < x2.toNat) (by omega)).symm, below_drewNv (hbw.alloc hbw.size _) _⟩
     have q0z : ¬ ((t.size : Int) < 3) := by omega
     have hz1 : (1 : Int) < (t.size : Int) := by omega
     have hp1 : 1 < t.size := by omega
     have hs1 : wr.cell? ⟨b, o + 1, none⟩ = some (.int .u8 (x1.toNat : Nat)) := by rw [← hx1]; exact (hbw.cell hb).trans (hct.out 1 (by omega))
     have hz2 : (2 : Int) < (t.size : Int) := by omega
     have hp2 : 2 < t.size := by omega
     have hs2 : wr.cell? ⟨b, o + 2, none⟩ = some (.int .u8 (x2.toNat : Nat)) := by rw [← hx2]; exact (hbw.cell hb).trans (hct.out 2 (by omega))
     by_cases q1 : x1.toNat < LO
     case pos =>
      have q1z : (x1.toNat : Int) < (LO : Int) := by omega
      go_big_quiet (fail)
      go_wp2
      go_meet
      exact ⟨congrArg Value.bool (decide_eq_true (p := t.size < 3 ∨ x1.toNat < LO ∨ HI < x1.toNat ∨ x2.toNat < 128 ∨ 191 < x2.toNat) (by omega)).symm, below_drewNv (hbw.alloc hbw.size _) _⟩
     have q1z : ¬ ((x1.toNat : Int) < (LO : Int)) := by omega
     by_cases q2 : HI < x1.toNat
     case pos =>
      have q2z : (HI : Int) < (x1.toNat : Int) := by omega
      go_big_quiet (fail)
      go_wp2
      go_meet
      exact ⟨congrArg Value.bool (decide_eq_true (p := t.size < 3 ∨ x1.toNat < LO ∨ HI < x1.toNat ∨ x2.toNat < 128 ∨ 191 < x2.toNat) (by omega)).symm, below_drewNv (hbw.alloc hbw.size _) _⟩
     have q2z : ¬ ((HI : Int) < (x1.toNat : Int)) := by omega
     by_cases q3 : x2.toNat < 128
     case pos =>
      have q3z : (x2.toNat : Int) < 128 := by omega
      go_big_quiet (fail)
      go_wp2
      go_meet
      exact ⟨congrArg Value.bool (decide_eq_true (p := t.size < 3 ∨ x1.toNat < LO ∨ HI < x1.toNat ∨ x2.toNat < 128 ∨ 191 < x2.toNat) (by omega)).symm, below_drewNv (hbw.alloc hbw.size _) _⟩
     have q3z : ¬ ((x2.toNat : Int) < 128) := by omega
     by_cases q4 : 191 < x2.toNat
     case pos =>
      have q4z : (191 : Int) < (x2.toNat : Int) := by omega
      go_big_quiet (fail)
      go_wp2
      go_meet
      exact ⟨congrArg Value.bool (decide_eq_true (p := t.size < 3 ∨ x1.toNat < LO ∨ HI < x1.toNat ∨ x2.toNat < 128 ∨ 191 < x2.toNat) (by omega)).symm, below_drewNv (hbw.alloc hbw.size _) _⟩
     have q4z : ¬ ((191 : Int) < (x2.toNat : Int)) := by omega
     go_big_quiet (fail)
     go_wp2
     go_meet
     exact ⟨congrArg Value.bool (decide_eq_false (p := t.size < 3 ∨ x1.toNat < LO ∨ HI < x1.toNat ∨ x2.toNat < 128 ∨ 191 < x2.toNat) (by omega)).symm, below_drewNv (hbw.alloc hbw.size _) _⟩
    case rest =>
     obtain ⟨rfl, hbc⟩ := hcut
     by_cases hb : t.size < 3 ∨ x1.toNat < LO ∨ HI < x1.toNat ∨ x2.toNat < 128 ∨ 191 < x2.toNat
     case pos =>
      have hbd : decide (t.size < 3 ∨ x1.toNat < LO ∨ HI < x1.toNat ∨ x2.toNat < 128 ∨ 191 < x2.toNat) = true := decide_eq_true hb
      rw [if_pos hb] at hlead
      go_wp2
      all_goals (go_ret; exact ⟨by first | rfl | rw [hlead], hbc⟩)
     have hbd : decide (t.size < 3 ∨ x1.toNat < LO ∨ HI < x1.toNat ∨ x2.toNat < 128 ∨ 191 < x2.toNat) = false := decide_eq_false hb
     rw [if_neg hb] at hlead
     go_wp2
     all_goals
      go_roundg g'
      case measure => omega
      case rel => exact ⟨hbc, t.extract 3 t.size, rel_sl (hid (cells_ext hct.out 3 (by omega))) p128z p128z (by first | exact Or.inl rfl | (rw [Lib.ext_size]; omega)), by rw [Lib.ext_list, hlead], by rw [Lib.ext_size]; omega, by rw [Lib.ext_size]; omega⟩
   by_cases s4 : SZ = 4
   case neg =>
    as_aux_lemma =>
    have e2 : ¬ ((X : Int) % 8 = 2) := by omega
    have e3 : ¬ ((X : Int) % 8 = 3) := by omega
    have e4 : ¬ ((X : Int) % 8 = 4) := by omega
    have e2b : (((X : Int) % 8) == 2) = false := by simp; omega
    have e3b : (((X : Int) % 8) == 3) = false := by simp; omega
    have e4b : (((X : Int) % 8) == 4) = false := by simp; omega
    simp only [Lib.checkN, s2, s3, s4, if_false] at hlead
    go_wp2
    all_goals (go_ret; exact ⟨by first | rfl | rw [hlead], hbw.alloc hbw.size _⟩)
   as_aux_lemma =>
   subst s4
   have hSZz : (X : Int) % 8 = 4 := by omega
   simp only [Lib.checkN, Nat.reduceEqDiff, if_true, if_false] at hlead
   go_upto_region 26 with fail
   go_cut [185] from 143 to 185 (fun c wx => c = .bool (decide (t.size < 4 ∨ x1.toNat < LO ∨ HI < x1.toNat ∨ x2.toNat < 128 ∨ 191 < x2.toNat ∨ x3.toNat < 128 ∨ 191 < x3.toNat)) ∧ Below w.heap.size w wx)
   case first =>
    by_cases q0 : t.size < 4
    case pos =>
     have q0z : (t.size : Int) < 4 := by omega
     go_big_quiet (fail)
     go_wp2
     go_meet
     exact ⟨congrArg Value.bool (decide_eq_true (p := t.size < 4 ∨ x1.toNat < LO ∨ HI < x1.toNat ∨ x2.toNat < 128 ∨ 191 < x2.toNat ∨ x3.toNat < 128 ∨ 191 < x3.toNat) (by omega)).symm, below_drewNv (hbw.alloc hbw.size _) _⟩
    have q0z : ¬ ((t.size : Int) < 4) := by omega
    have hz1 : (1 : Int) < (t.size : Int) := by omega
    have hp1 : 1 < t.size := by omega
    have hs1 : wr.cell? ⟨b, o + 1, none⟩ = some (.int .u8 (x1.toNat : Nat)) := by rw [← hx1]; exact (hbw.cell hb).trans (hct.out 1 (by omega))
    have hz2 : (2 : Int) < (t.size : Int) := by omega
    have hp2 : 2 < t.size := by omega
    have hs2 : wr.cell? ⟨b, o + 2, none⟩ = some (.int .u8 (x2.toNat : Nat)) := by rw [← hx2]; exact (hbw.cell hb).trans (hct.out 2 (by omega))
    have hz3 : (3 : Int) < (t.size : Int) := by omega
    have hp3 : 3 < t.size := by omega
    have hs3 : wr.cell? ⟨b, o + 3, none⟩ = some (.int .u8 (x3.toNat : Nat)) := by rw [← hx3]; exact (hbw.cell hb).trans (hct.out 3 (by omega))
    by_cases q1 : x1.toNat < LO
    case pos =>
     have q1z : (x1.toNat : Int) < (LO : Int) := by omega
     go_big_quiet (fail)
     go_wp2
     go_meet
     exact ⟨congrArg Value.bool (decide_eq_true (p := t.size < 4 ∨ x1.toNat < LO ∨ HI < x1.toNat ∨ x2.toNat < 128 ∨ 191 < x2.toNat ∨ x3.toNat < 128 ∨ 191 < x3.toNat) (by omega)).symm, below_drewNv (hbw.alloc hbw.size _) _⟩
    have q1z : ¬ ((x1.toNat : Int) < (LO : Int)) := by omega
    by_cases q2 : HI < x1.toNat
    case pos =>
     have q2z : (HI : Int) < (x1.toNat : Int) := by omega
     go_big_quiet (fail)
     go_wp2
     go_meet
     exact ⟨congrArg Value.bool (decide_eq_true (p := t.size < 4 ∨ x1.toNat < LO ∨ HI < x1.toNat ∨ x2.toNat < 128 ∨ 191 < x2.toNat ∨ x3.toNat < 128 ∨ 191 < x3.toNat) (by omega)).symm, below_drewNv (hbw.alloc hbw.size _) _⟩
    have q2z : ¬ ((HI : Int) < (x1.toNat : Int)) := by omega
    by_cases q3 : x2.toNat < 128
    case pos =>
     have q3z : (x2.toNat : Int) < 128 := by omega
     go_big_quiet (fail)
     go_wp2
     go_meet
     exact ⟨congrArg Value.bool (decide_eq_true (p := t.size < 4 ∨ x1.toNat < LO ∨ HI < x1.toNat ∨ x2.toNat < 128 ∨ 191 < x2.toNat ∨ x3.toNat < 128 ∨ 191 < x3.toNat) (by omega)).symm, below_drewNv (hbw.alloc hbw.size _) _⟩
    have q3z : ¬ ((x2.toNat : Int) < 128) := by omega
    by_cases q4 : 191 < x2.toNat
    case pos =>
     have q4z : (191 : Int) < (x2.toNat : Int) := by omega
     go_big_quiet (fail)
     go_wp2
     go_meet
     exact ⟨congrArg Value.bool (decide_eq_true (p := t.size < 4 ∨ x1.toNat < LO ∨ HI < x1.toNat ∨ x2.toNat < 128 ∨ 191 < x2.toNat ∨ x3.toNat < 128 ∨ 191 < x3.toNat) (by omega)).symm, below_drewNv (hbw.alloc hbw.size _) _⟩
    have q4z : ¬ ((191 : Int) < (x2.toNat : Int)) := by omega
    by_cases q5 : x3.toNat < 128
    case pos =>
     have q5z : (x3.toNat : Int) < 128 := by omega
     go_big_quiet (fail)
     go_wp2
     go_meet
     exact ⟨congrArg Value.bool (decide_eq_true (p := t.size < 4 ∨ x1.toNat < LO ∨ HI < x1.toNat ∨ x2.toNat < 128 ∨ 191 < x2.toNat ∨ x3.toNat < 128 ∨ 191 < x3.toNat) (by omega)).symm, below_drewNv (hbw.alloc hbw.size _) _⟩
    have q5z : ¬ ((x3.toNat : Int) < 128) := by omega
    by_cases q6 : 191 < x3.toNat
    case pos =>
     have q6z : (191 : Int) < (x3.toNat : Int) := by omega
     go_big_quiet (fail)
     go_wp2
     go_meet
     exact ⟨congrArg Value.bool (decide_eq_true (p := t.size < 4 ∨ x1.toNat < LO ∨ HI < x1.toNat ∨ x2.toNat < 128 ∨ 191 < x2.toNat ∨ x3.toNat < 128 ∨ 191 < x3.toNat) (by omega)).symm, below_drewNv (hbw.alloc hbw.size _) _⟩
    have q6z : ¬ ((191 : Int) < (x3.toNat : Int)) := by omega
    go_big_quiet (fail)
    go_wp2
    go_meet
    exact ⟨congrArg Value.bool (decide_eq_false (p := t.size < 4 ∨ x1.toNat < LO ∨ HI < x1.toNat ∨ x2.toNat < 128 ∨ 191 < x2.toNat ∨ x3.toNat < 128 ∨ 191 < x3.toNat) (by omega)).symm, below_drewNv (hbw.alloc hbw.size _) _⟩
   case rest =>
    obtain ⟨rfl, hbc⟩ := hcut
    by_cases hb : t.size < 4 ∨ x1.toNat < LO ∨ HI < x1.toNat ∨ x2.toNat < 128 ∨ 191 < x2.toNat ∨ x3.toNat < 128 ∨ 191 < x3.toNat
    case pos =>
     have hbd : decide (t.size < 4 ∨ x1.toNat < LO ∨ HI < x1.toNat ∨ x2.toNat < 128 ∨ 191 < x2.toNat ∨ x3.toNat < 128 ∨ 191 < x3.toNat) = true := decide_eq_true hb
     rw [if_pos hb] at hlead
     go_wp2
     all_goals (go_ret; exact ⟨by first | rfl | rw [hlead], hbc⟩)
    have hbd : decide (t.size < 4 ∨ x1.toNat < LO ∨ HI < x1.toNat ∨ x2.toNat < 128 ∨ 191 < x2.toNat ∨ x3.toNat < 128 ∨ 191 < x3.toNat) = false := decide_eq_false hb
    rw [if_neg hb] at hlead
    go_wp2
    all_goals
     go_roundg g'
     case measure => omega
     case rel => exact ⟨hbc, t.extract 4 t.size, rel_sl (hid (cells_ext hct.out 4 (by omega))) p128z p128z (by first | exact Or.inl rfl | (rw [Lib.ext_size]; omega)), by rw [Lib.ext_list, hlead], by rw [Lib.ext_size]; omega, by rw [Lib.ext_size]; omega⟩
  as_aux_lemma =>
  have hascz : (x0.toNat : Int) < 128 := by omega
  have a1 : Lib.Asc t 1 := Lib.asc_one t h0 (by rw [hx0]; exact hasc)
  obtain ⟨t1, ht1⟩ : ∃ t1, t.extract 1 t.size = t1 := ⟨_, rfl⟩
  have z1 : t1.size + 1 = t.size := by rw [← ht1, Lib.ext_size]; omega
  have ct1 : Hid (CellsAt w b (o + 1) t1) := hid (by rw [← ht1]; exact cells_ext hct.out 1 (by omega))
  have v1 : Lib.validD t1.data.toList = ANS := by rw [← ht1, Lib.valid_skip t 1 a1]; exact hv
  clear hTr hT hv a1
  by_cases c8 : 8 < t1.size
  case neg =>
   have c8z : ¬ ((8 : Int) < (t1.size : Int)) := by omega
   go_wp2
   all_goals
    go_roundg g'
    case measure => omega
    case rel => exact ⟨hbw, t1, rel_sl ct1 (by omega) (by omega) (by omega), v1, by omega, by omega⟩
  have c8z : (8 : Int) < (t1.size : Int) := by omega
  obtain ⟨A1, hA1⟩ : ∃ A1, Lib.leNat [t1.get! 0, t1.get! 1, t1.get! 2, t1.get! 3, t1.get! 4, t1.get! 5, t1.get! 6, t1.get! 7] = A1 := ⟨_, rfl⟩
  have lA1 : A1 < 18446744073709551616 := hA1 ▸ Lib.word_lt t1
  have cW1 : ∀ W n m oo, Below w.heap.size w W → n = t1.size → oo = o + 1 → Calls Tryz.prog 121 #[.slice (some ⟨b, oo, none⟩) n m] W fun e w' => e = .returned (.int .u64 A1) ∧ ∃ q, w' = W.drewN q := by
   rintro W _ m _ hW rfl rfl
   rw [← hA1]
   exact word_sl b _ _ t1 W (by omega) (cK hb hW ct1.out)
  have kA1 := Lib.word_asc t1 (by omega)
  rw [hA1] at kA1
  have hand1 : bits .and .u64 (A1 : Int) 9259542123273814144 = ((A1 &&& 9259542123273814144 : Nat) : Int) := u64_and_nat A1 9259542123273814144 lA1 (by omega)
  obtain ⟨Z1, hZ1⟩ : ∃ Z1, A1 &&& 9259542123273814144 = Z1 := ⟨_, rfl⟩
  rw [hZ1] at hand1 kA1
  by_cases hz1 : Z1 = 0
  case neg =>
   have hz1b : ((Z1 : Int) == 0) = false := by simp; omega
   go_wp2_with (go_at_call 121; go_must (refine (cW1 _ _ _ _ p38z (by omega) (by omega)).mono ?_; rintro e W1 ⟨rfl, q1, rfl⟩))
   all_goals
    go_roundg g'
    case measure => omega
    case rel => exact ⟨below_drewNv hbw q1, t1, rel_sl ct1 (by omega) (by omega) (by omega), v1, by omega, by omega⟩
  have hz1b : ((Z1 : Int) == 0) = true := by simp [hz1]
  have a8 : Lib.Asc t1 8 := kA1.1 hz1
  obtain ⟨t2, ht2⟩ : ∃ t2, t1.extract 8 t1.size = t2 := ⟨_, rfl⟩
  have z2 : t2.size + 8 = t1.size := by rw [← ht2, Lib.ext_size]; omega
  have ct2 : Hid (CellsAt w b (o + 1 + 8) t2) := hid (by rw [← ht2]; exact cells_ext ct1.out 8 (by omega))
  have v2 : Lib.validD t2.data.toList = ANS := by rw [← ht2, Lib.valid_skip t1 8 a8]; exact v1
  clear kA1 a8 v1
  go_wp2_with (go_at_call 121; go_must (refine (cW1 _ _ _ _ p38z (by omega) (by omega)).mono ?_; rintro e W1 ⟨rfl, q1, rfl⟩))
  have hb1 : Below w.heap.size w (wr.drewN q1) := below_drewNv hbw q1
  generalize wr.drewN q1 = wq at hb1 ⊢
  rw [show t.size - 1 - 8 = t2.size by omega]
  clear cW1 hbw
  by_cases c16 : 16 < t2.size
  case neg =>
   have c16z : ¬ ((16 : Int) < (t2.size : Int)) := by omega
   have c16b : decide ((16 : Int) < (t2.size : Int)) = false := decide_eq_false c16z
   go_big_quiet (fail)
   go_wp2
   all_goals
    go_roundg g'
    case measure => omega
    case rel => exact ⟨below_drewNv hb1 nq, t2, rel_sl ct2 (by omega) (by omega) (by omega), v2, by omega, by omega⟩
  have c16z : (16 : Int) < (t2.size : Int) := by omega
  have s8z : (8 : Int) ≤ (t2.size : Int) := by omega
  obtain ⟨t2b, ht2b⟩ : ∃ t2b, t2.extract 8 t2.size = t2b := ⟨_, rfl⟩
  have z2b : t2b.size + 8 = t2.size := by rw [← ht2b, Lib.ext_size]; omega
  have ct2b : Hid (CellsAt w b (o + 1 + 8 + 8) t2b) := hid (by rw [← ht2b]; exact cells_ext ct2.out 8 (by omega))
  obtain ⟨A2, hA2⟩ : ∃ A2, Lib.leNat [t2.get! 0, t2.get! 1, t2.get! 2, t2.get! 3, t2.get! 4, t2.get! 5, t2.get! 6, t2.get! 7] = A2 := ⟨_, rfl⟩
  have lA2 : A2 < 18446744073709551616 := hA2 ▸ Lib.word_lt t2
  have cW2 : ∀ W n m oo, Below w.heap.size w W → n = t2.size → oo = o + 1 + 8 → Calls Tryz.prog 121 #[.slice (some ⟨b, oo, none⟩) n m] W fun e w' => e = .returned (.int .u64 A2) ∧ ∃ q, w' = W.drewN q := by
   rintro W _ m _ hW rfl rfl
   rw [← hA2]
   exact word_sl b _ _ t2 W (by omega) (cK hb hW ct2.out)
  have kA2 := Lib.word_asc t2 (by omega)
  rw [hA2] at kA2
  obtain ⟨A3, hA3⟩ : ∃ A3, Lib.leNat [t2b.get! 0, t2b.get! 1, t2b.get! 2, t2b.get! 3, t2b.get! 4, t2b.get! 5, t2b.get! 6, t2b.get! 7] = A3 := ⟨_, rfl⟩
  have lA3 : A3 < 18446744073709551616 := hA3 ▸ Lib.word_lt t2b
  have cW3 : ∀ W n m oo, Below w.heap.size w W → n = t2b.size → oo = o + 1 + 8 + 8 → Calls Tryz.prog 121 #[.slice (some ⟨b, oo, none⟩) n m] W fun e w' => e = .returned (.int .u64 A3) ∧ ∃ q, w' = W.drewN q := by
   rintro W _ m _ hW rfl rfl
   rw [← hA3]
   exact word_sl b _ _ t2b W (by omega) (cK hb hW ct2b.out)
  have kA3 := Lib.word_asc t2b (by omega)
  rw [hA3] at kA3
  have hor2 : bits .or .u64 (A2 : Int) (A3 : Int) = ((A2 ||| A3 : Nat) : Int) := u64_or_nat A2 A3 lA2 lA3
  have lor2 : A2 ||| A3 < 18446744073709551616 := Nat.or_lt_two_pow (n := 64) lA2 lA3
  have hand2 : bits .and .u64 ((A2 ||| A3 : Nat) : Int) 9259542123273814144 = (((A2 ||| A3) &&& 9259542123273814144 : Nat) : Int) := u64_and_nat _ 9259542123273814144 lor2 (by omega)
  have k2 : (A2 ||| A3) &&& 9259542123273814144 = 0 → Lib.Asc t2 16 := fun h0' => by
   obtain ⟨e1, e2⟩ := (Lib.or_mask A2 A3 _).1 h0'
   exact Lib.asc_add t2 8 8 (kA2.1 e1) (by rw [ht2b]; exact kA3.1 e2)
  obtain ⟨O2, hO2⟩ : ∃ O2, A2 ||| A3 = O2 := ⟨_, rfl⟩
  rw [hO2] at hor2 hand2 k2
  obtain ⟨Z2, hZ2⟩ : ∃ Z2, O2 &&& 9259542123273814144 = Z2 := ⟨_, rfl⟩
  rw [hZ2] at hand2 k2
  clear kA2 kA3 lor2 hO2 hZ2
  by_cases hz2 : Z2 = 0
  case neg =>
   have hz2b : ((Z2 : Int) == 0) = false := by simp; omega
   go_big_quiet (first | (go_at_call 121; refine Calls.quiet_of (cW2 _ _ _ _ p38z (by omega) (by omega))) | (go_at_call 121; refine Calls.quiet_of (cW3 _ _ _ _ p38z (by omega) (by omega))))
   go_wp2
   all_goals
    go_roundg g'
    case measure => omega
    case rel => exact ⟨below_drewNv hb1 nq, t2, rel_sl ct2 (by omega) (by omega) (by omega), v2, by omega, by omega⟩
  have hz2b : ((Z2 : Int) == 0) = true := by simp [hz2]
  have a16 := k2 hz2
  obtain ⟨t3, ht3⟩ : ∃ t3, t2.extract 16 t2.size = t3 := ⟨_, rfl⟩
  have z3 : t3.size + 16 = t2.size := by rw [← ht3, Lib.ext_size]; omega
  have ct3 : Hid (CellsAt w b (o + 1 + 8 + 16) t3) := hid (by rw [← ht3]; exact cells_ext ct2.out 16 (by omega))
  have v3 : Lib.validD t3.data.toList = ANS := by rw [← ht3, Lib.valid_skip t2 16 a16]; exact v2
  clear k2 a16 v2
  go_big_quiet (first | (go_at_call 121; refine Calls.quiet_of (cW2 _ _ _ _ p38z (by omega) (by omega))) | (go_at_call 121; refine Calls.quiet_of (cW3 _ _ _ _ p38z (by omega) (by omega))))
  have hb2 : Below w.heap.size w (wq.drewN nq) := below_drewNv hb1 nq
  generalize wq.drewN nq = wq2 at hb2 ⊢
  clear cW2 cW3 hb1
  go_wp2
  -- ████ 32 bytes a round
  go_loopg [0] (t3.size + 1) (fun g2 s0 wx => Below w.heap.size w wx ∧ ∃ u : ByteArray, SL w b s0 u ∧ Lib.validD u.data.toList = ANS ∧ u.size < g2 ∧ u.size ≤ t3.size)
  case atStart => exact ⟨hb2, t3, rel_sl ct3 (by omega) (by omega) (by omega), v3, by omega, Nat.le_refl _⟩
  case round =>
   obtain ⟨hbu, u, ⟨oU, rfl, hcu⟩, vu, hgu, hut⟩ := hrel
   by_cases c32 : 32 < u.size
   case neg =>
    have c32z : ¬ ((32 : Int) < (u.size : Int)) := by omega
    have c32b : decide ((32 : Int) < (u.size : Int)) = false := decide_eq_false c32z
    go_wp2_with fail
    go_big_quiet (fail)
    go_wp2
    all_goals
     go_roundg g'
     case measure => omega
     case rel => exact ⟨below_drewNv hbu nq, u, rel_sl hcu (by omega) (by omega) (by omega), vu, by omega, by omega⟩
   obtain ⟨g3, rfl⟩ : ∃ g3, gk = g3 + 1 := ⟨gk - 1, by omega⟩
   have c32z : (32 : Int) < (u.size : Int) := by omega
   have s8u : (8 : Int) ≤ (u.size : Int) := by omega
   have s16u : (16 : Int) ≤ (u.size : Int) := by omega
   have s24u : (24 : Int) ≤ (u.size : Int) := by omega
   obtain ⟨ub, hub⟩ : ∃ ub, u.extract 8 u.size = ub := ⟨_, rfl⟩
   have zub : ub.size + 8 = u.size := by rw [← hub, Lib.ext_size]; omega
   have cub : Hid (CellsAt w b (oU + 8) ub) := hid (by rw [← hub]; exact cells_ext hcu.out 8 (by omega))
   obtain ⟨uc, huc⟩ : ∃ uc, u.extract 16 u.size = uc := ⟨_, rfl⟩
   have zuc : uc.size + 16 = u.size := by rw [← huc, Lib.ext_size]; omega
   have cuc : Hid (CellsAt w b (oU + 16) uc) := hid (by rw [← huc]; exact cells_ext hcu.out 16 (by omega))
   obtain ⟨ud, hud⟩ : ∃ ud, u.extract 24 u.size = ud := ⟨_, rfl⟩
   have zud : ud.size + 24 = u.size := by rw [← hud, Lib.ext_size]; omega
   have cud : Hid (CellsAt w b (oU + 24) ud) := hid (by rw [← hud]; exact cells_ext hcu.out 24 (by omega))
   obtain ⟨B0, hB0⟩ : ∃ B0, Lib.leNat [u.get! 0, u.get! 1, u.get! 2, u.get! 3, u.get! 4, u.get! 5, u.get! 6, u.get! 7] = B0 := ⟨_, rfl⟩
   have lB0 : B0 < 18446744073709551616 := hB0 ▸ Lib.word_lt u
   have cB0 : ∀ W n m oo, Below w.heap.size w W → n = u.size → oo = oU → Calls Tryz.prog 121 #[.slice (some ⟨b, oo, none⟩) n m] W fun e w' => e = .returned (.int .u64 B0) ∧ ∃ q, w' = W.drewN q := by
    rintro W _ m _ hW rfl rfl
    rw [← hB0]
    exact word_sl b _ _ u W (by omega) (cK hb hW hcu.out)
   have kB0 := Lib.word_asc u (by omega)
   rw [hB0] at kB0
   obtain ⟨B1, hB1⟩ : ∃ B1, Lib.leNat [ub.get! 0, ub.get! 1, ub.get! 2, ub.get! 3, ub.get! 4, ub.get! 5, ub.get! 6, ub.get! 7] = B1 := ⟨_, rfl⟩
   have lB1 : B1 < 18446744073709551616 := hB1 ▸ Lib.word_lt ub
   have cB1 : ∀ W n m oo, Below w.heap.size w W → n = ub.size → oo = oU + 8 → Calls Tryz.prog 121 #[.slice (some ⟨b, oo, none⟩) n m] W fun e w' => e = .returned (.int .u64 B1) ∧ ∃ q, w' = W.drewN q := by
    rintro W _ m _ hW rfl rfl
    rw [← hB1]
    exact word_sl b _ _ ub W (by omega) (cK hb hW cub.out)
   have kB1 := Lib.word_asc ub (by omega)
   rw [hB1] at kB1
   obtain ⟨B2, hB2⟩ : ∃ B2, Lib.leNat [uc.get! 0, uc.get! 1, uc.get! 2, uc.get! 3, uc.get! 4, uc.get! 5, uc.get! 6, uc.get! 7] = B2 := ⟨_, rfl⟩
   have lB2 : B2 < 18446744073709551616 := hB2 ▸ Lib.word_lt uc
   have cB2 : ∀ W n m oo, Below w.heap.size w W → n = uc.size → oo = oU + 16 → Calls Tryz.prog 121 #[.slice (some ⟨b, oo, none⟩) n m] W fun e w' => e = .returned (.int .u64 B2) ∧ ∃ q, w' = W.drewN q := by
    rintro W _ m _ hW rfl rfl
    rw [← hB2]
    exact word_sl b _ _ uc W (by omega) (cK hb hW cuc.out)
   have kB2 := Lib.word_asc uc (by omega)
   rw [hB2] at kB2
   obtain ⟨B3, hB3⟩ : ∃ B3, Lib.leNat [ud.get! 0, ud.get! 1, ud.get! 2, ud.get! 3, ud.get! 4, ud.get! 5, ud.get! 6, ud.get! 7] = B3 := ⟨_, rfl⟩
   have lB3 : B3 < 18446744073709551616 := hB3 ▸ Lib.word_lt ud
   have cB3 : ∀ W n m oo, Below w.heap.size w W → n = ud.size → oo = oU + 24 → Calls Tryz.prog 121 #[.slice (some ⟨b, oo, none⟩) n m] W fun e w' => e = .returned (.int .u64 B3) ∧ ∃ q, w' = W.drewN q := by
    rintro W _ m _ hW rfl rfl
    rw [← hB3]
    exact word_sl b _ _ ud W (by omega) (cK hb hW cud.out)
   have kB3 := Lib.word_asc ud (by omega)
   rw [hB3] at kB3
   have ho1 : bits .or .u64 (B0 : Int) (B1 : Int) = ((B0 ||| B1 : Nat) : Int) := u64_or_nat B0 B1 lB0 lB1
   have ho2 : bits .or .u64 (B2 : Int) (B3 : Int) = ((B2 ||| B3 : Nat) : Int) := u64_or_nat B2 B3 lB2 lB3
   have lo1 : B0 ||| B1 < 18446744073709551616 := Nat.or_lt_two_pow (n := 64) lB0 lB1
   have lo2 : B2 ||| B3 < 18446744073709551616 := Nat.or_lt_two_pow (n := 64) lB2 lB3
   have ho3 : bits .or .u64 ((B0 ||| B1 : Nat) : Int) ((B2 ||| B3 : Nat) : Int) = (((B0 ||| B1) ||| (B2 ||| B3) : Nat) : Int) := u64_or_nat _ _ lo1 lo2
   have lo3 : (B0 ||| B1) ||| (B2 ||| B3) < 18446744073709551616 := Nat.or_lt_two_pow (n := 64) lo1 lo2
   have hand3 : bits .and .u64 (((B0 ||| B1) ||| (B2 ||| B3) : Nat) : Int) 9259542123273814144 = ((((B0 ||| B1) ||| (B2 ||| B3)) &&& 9259542123273814144 : Nat) : Int) := u64_and_nat _ 9259542123273814144 lo3 (by omega)
   have k3 : ((B0 ||| B1) ||| (B2 ||| B3)) &&& 9259542123273814144 = 0 → Lib.Asc u 32 := fun h0' => by
    obtain ⟨e01, e23⟩ := (Lib.or_mask _ _ _).1 h0'
    obtain ⟨e0, e1⟩ := (Lib.or_mask _ _ _).1 e01
    obtain ⟨e2, e3⟩ := (Lib.or_mask _ _ _).1 e23
    have s16 : Lib.Asc u 16 := Lib.asc_add u 8 8 (kB0.1 e0) (by rw [hub]; exact kB1.1 e1)
    have s24 : Lib.Asc u 24 := Lib.asc_add u 16 8 s16 (by rw [huc]; exact kB2.1 e2)
    exact Lib.asc_add u 24 8 s24 (by rw [hud]; exact kB3.1 e3)
   obtain ⟨P1, hP1⟩ : ∃ P1, B0 ||| B1 = P1 := ⟨_, rfl⟩
   obtain ⟨P2, hP2⟩ : ∃ P2, B2 ||| B3 = P2 := ⟨_, rfl⟩
   rw [hP1, hP2] at ho3 hand3 k3
   rw [hP1] at ho1
   rw [hP2] at ho2
   obtain ⟨P3, hP3⟩ : ∃ P3, P1 ||| P2 = P3 := ⟨_, rfl⟩
   rw [hP3] at ho3 hand3 k3
   obtain ⟨Z3, hZ3⟩ : ∃ Z3, P3 &&& 9259542123273814144 = Z3 := ⟨_, rfl⟩
   rw [hZ3] at hand3 k3
   clear kB0 kB1 kB2 kB3 lo1 lo2 lo3 hP1 hP2 hP3 hZ3
   by_cases hz3 : Z3 = 0
   case neg =>
    have hz3b : ((Z3 : Int) == 0) = false := by simp; omega
    go_wp2_with fail
    go_big_quiet (first | (go_at_call 121; refine Calls.quiet_of (cB0 _ _ _ _ p38z (by omega) (by omega))) | (go_at_call 121; refine Calls.quiet_of (cB1 _ _ _ _ p38z (by omega) (by omega))) | (go_at_call 121; refine Calls.quiet_of (cB2 _ _ _ _ p38z (by omega) (by omega))) | (go_at_call 121; refine Calls.quiet_of (cB3 _ _ _ _ p38z (by omega) (by omega))))
    go_wp2
    all_goals
     go_roundg g'
     case measure => omega
     case rel => exact ⟨below_drewNv hbu nq, u, rel_sl hcu (by omega) (by omega) (by omega), vu, by omega, by omega⟩
   have hz3b : ((Z3 : Int) == 0) = true := by simp [hz3]
   have a32 := k3 hz3
   obtain ⟨u2, hu2⟩ : ∃ u2, u.extract 32 u.size = u2 := ⟨_, rfl⟩
   have zu2 : u2.size + 32 = u.size := by rw [← hu2, Lib.ext_size]; omega
   have cu2 : Hid (CellsAt w b (oU + 32) u2) := hid (by rw [← hu2]; exact cells_ext hcu.out 32 (by omega))
   have vu2 : Lib.validD u2.data.toList = ANS := by rw [← hu2, Lib.valid_skip u 32 a32]; exact vu
   go_wp2_with fail
   go_big_quiet (first | (go_at_call 121; refine Calls.quiet_of (cB0 _ _ _ _ p38z (by omega) (by omega))) | (go_at_call 121; refine Calls.quiet_of (cB1 _ _ _ _ p38z (by omega) (by omega))) | (go_at_call 121; refine Calls.quiet_of (cB2 _ _ _ _ p38z (by omega) (by omega))) | (go_at_call 121; refine Calls.quiet_of (cB3 _ _ _ _ p38z (by omega) (by omega))))
   go_wp2
   all_goals
    go_roundg g3
    case measure => omega
    case rel => exact ⟨below_drewNv hbu nq, u2, rel_sl cu2 (by omega) (by omega) (by omega), vu2, by omega, by omega⟩
def cL.f (l : List Int) : Option Bool := if l.length ≤ 1073741824 ∧ isBy l = true then some (Lib.validD (u8s l)) else none
theorem il (A : Option Addr) (c0 : Nat) (w : World) : Calls Tryz.prog 110 #[.slice A 0 c0] w fun e w' => e = .returned (.bool true) ∧ Below w.heap.size w w' := by
  go_enter Tryz.func110, Tryz.ntmps110
  go_wp2
  go_loopw [0] (fun v wr => v = .slice A 0 0 ∧ Below w.heap.size w wr) (fun _ wr => 0)
  case atStart =>
    exact ⟨by first | rfl | simp, Below.refl _ w⟩
  case round =>
    obtain ⟨rfl, hB⟩ := hrel
    go_wp2
    go_ret
    exact ⟨rfl, hB⟩
theorem cL.calls (A0 : Option Addr) (c0 : Nat) (l0 : List Int) (r : Bool) (w : World) (hr0 : Kd.C (Kd.int .u8) w A0 l0.length l0) (hc0 : l0.length ≤ c0) (h : cL.f l0 = some r) (HT_ : Tabs w) :
 Calls Tryz.prog 110 #[.slice A0 l0.length c0] w fun e w' => e = .returned (.bool r) ∧ Below w.heap.size w w' := by
 unfold cL.f at h
 split at h
 ·rename_i hh
  obtain ⟨hl, hB⟩ := hh
  obtain rfl := Option.some.inj h
  rcases l0 with _ | ⟨x, l0⟩
  ·exact (il A0 c0 w).mono fun e w' q => by rw [q.1]; exact ⟨by simp [u8s, Lib.validD_nil], q.2⟩
  ·obtain ⟨ad, rfl, hcc⟩ := hr0.2.2 (by simp)
   have hcells := eY hr0
   have h0 := hcells ad rfl 0 (.int .u8 x) (by simp [nums])
   obtain ⟨b, off, sp⟩ := ad
   have hsp : sp = none := by
    cases sp with
    | none => rfl
    | some q => simp [World.cell?, Addr.add] at h0; split at h0 <;> simp at h0
   subst hsp
   have hb : b < w.heap.size := by have := cell_lt h0; simpa [Addr.add] using this
   have hc : CellsAt w b off (strOfNums (x :: l0)) := by
    intro j hj
    rw [str_size] at hj
    have := hcells ⟨b, off, none⟩ rfl j (.int .u8 ((x :: l0).getD j 0)) (by
     simp only [nums, List.getElem?_map, List.getElem?_eq_getElem hj, List.getD_eq_getElem?_getD, Option.map_some, Option.getD_some])
    have ha : (⟨b, off, none⟩ : Addr).add j = ⟨b, off + j, none⟩ := by unfold Addr.add; split <;> simp_all
    rw [ha] at this
    rw [this, str_get hB j hj]
   have hv := ik b off c0 (strOfNums (x :: l0)) w (by rw [str_size]; omega) HT_.utf hb hc (by rw [str_size]; exact hc0)
   rw [str_size, u8s_data] at hv
   exact hv
 ·cases h
end Go.Proofs.YtodnggilomanbaaGreatDoor.Hand
end
section
set_option maxRecDepth 100000
namespace Go.Proofs.YtodnggilomanbaaGreatDoor.Hand
open Go.RowKit Go.Lib Go.Proofs.YtodnggilomanbaaGreatDoorW.PrintWords
set_option linter.unusedVariables false
set_option linter.unusedSimpArgs false
theorem ej (A0 : Option Addr) (c0 : Nat) (l0 : List Int) (r : Bool) (w : World) (hr0 : Kd.C (Kd.int .u8) w A0 l0.length l0) (hc0 : l0.length ≤ c0) (h : cL.f l0 = some r) (HT_ : Tabs w) :
    Calls Tryz.prog 95 #[.slice A0 l0.length c0] w fun e w' => e = .returned (.bool r) ∧ Below w.heap.size w w' := by
  have hv := cL.calls A0 c0 l0 r w hr0 hc0 h HT_
  go_enter Tryz.func95, Tryz.ntmps95
  go_wp2_with (go_at_call 110; refine hv.mono ?_; rintro e w1 ⟨rfl, hb⟩)
  go_ret
  exact ⟨rfl, hb⟩
end Go.Proofs.YtodnggilomanbaaGreatDoor.Hand
end
