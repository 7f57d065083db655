/-
  utf8.word of a slice of bytes: the walk (turned from the shelf's walk over a string).
-/
import Derived.Test.YtodnggilomanbaaGreatDoorHandAa
import Derived.Shelf.Unicode.ValidAny
namespace Go.Proofs.YtodnggilomanbaaGreatDoor.Hand
open Go.RowKit Go.Lib Go.Proofs.YtodnggilomanbaaGreatDoorW.PrintWords
set_option linter.unusedVariables false
set_option linter.unusedSimpArgs false

set_option maxHeartbeats 8000000 in
set_option maxRecDepth 1000000 in
theorem word_sl (b o c : Nat) (s : ByteArray) (w : World) (hs : 8 ≤ s.size) (hc : ∀ j, j < s.size → w.cell? ⟨b, o + j, none⟩ = some (.int .u8 ((s.get! j).toNat : Nat))) :
    Calls Tryz.prog 121 #[.slice (some ⟨b, o, none⟩) s.size c] w fun e w' => e = .returned (.int .u64 (Lib.leNat [s.get! 0, s.get! 1, s.get! 2, s.get! 3, s.get! 4, s.get! 5, s.get! 6, s.get! 7])) ∧ ∃ q, w' = w.drewN q := by
  obtain ⟨x0, hx0⟩ : ∃ x0, s.get! 0 = x0 := ⟨_, rfl⟩
  have hs0 : w.cell? ⟨b, o, none⟩ = some (.int .u8 (x0.toNat : Nat)) := by have := hc 0 (by omega); rwa [hx0] at this
  have h0 : x0.toNat < 256 := x0.toNat_lt
  obtain ⟨x1, hx1⟩ : ∃ x1, s.get! 1 = x1 := ⟨_, rfl⟩
  have hs1 : w.cell? ⟨b, o + 1, none⟩ = some (.int .u8 (x1.toNat : Nat)) := by have := hc 1 (by omega); rwa [hx1] at this
  have h1 : x1.toNat < 256 := x1.toNat_lt
  obtain ⟨x2, hx2⟩ : ∃ x2, s.get! 2 = x2 := ⟨_, rfl⟩
  have hs2 : w.cell? ⟨b, o + 2, none⟩ = some (.int .u8 (x2.toNat : Nat)) := by have := hc 2 (by omega); rwa [hx2] at this
  have h2 : x2.toNat < 256 := x2.toNat_lt
  obtain ⟨x3, hx3⟩ : ∃ x3, s.get! 3 = x3 := ⟨_, rfl⟩
  have hs3 : w.cell? ⟨b, o + 3, none⟩ = some (.int .u8 (x3.toNat : Nat)) := by have := hc 3 (by omega); rwa [hx3] at this
  have h3 : x3.toNat < 256 := x3.toNat_lt
  obtain ⟨x4, hx4⟩ : ∃ x4, s.get! 4 = x4 := ⟨_, rfl⟩
  have hs4 : w.cell? ⟨b, o + 4, none⟩ = some (.int .u8 (x4.toNat : Nat)) := by have := hc 4 (by omega); rwa [hx4] at this
  have h4 : x4.toNat < 256 := x4.toNat_lt
  obtain ⟨x5, hx5⟩ : ∃ x5, s.get! 5 = x5 := ⟨_, rfl⟩
  have hs5 : w.cell? ⟨b, o + 5, none⟩ = some (.int .u8 (x5.toNat : Nat)) := by have := hc 5 (by omega); rwa [hx5] at this
  have h5 : x5.toNat < 256 := x5.toNat_lt
  obtain ⟨x6, hx6⟩ : ∃ x6, s.get! 6 = x6 := ⟨_, rfl⟩
  have hs6 : w.cell? ⟨b, o + 6, none⟩ = some (.int .u8 (x6.toNat : Nat)) := by have := hc 6 (by omega); rwa [hx6] at this
  have h6 : x6.toNat < 256 := x6.toNat_lt
  obtain ⟨x7, hx7⟩ : ∃ x7, s.get! 7 = x7 := ⟨_, rfl⟩
  have hs7 : w.cell? ⟨b, o + 7, none⟩ = some (.int .u8 (x7.toNat : Nat)) := by have := hc 7 (by omega); rwa [hx7] at this
  have h7 : x7.toNat < 256 := x7.toNat_lt
  rw [hx0, hx1, hx2, hx3, hx4, hx5, hx6, hx7]
  have hv : ((Lib.leNat [x0, x1, x2, x3, x4, x5, x6, x7] : Nat) : Int) = (x0.toNat : Int) + (x1.toNat : Int) * 256 + (x2.toNat : Int) * 65536 + (x3.toNat : Int) * 16777216 + (x4.toNat : Int) * 4294967296 + (x5.toNat : Int) * 1099511627776 + (x6.toNat : Int) * 281474976710656 + (x7.toNat : Int) * 72057594037927936 := by
    simp only [Lib.leNat]
    push_cast
    omega
  have q0 : (0 : Int) < (s.size : Int) := by omega
  have p0 : 0 < s.size := by omega
  have q1 : (1 : Int) < (s.size : Int) := by omega
  have p1 : 1 < s.size := by omega
  have q2 : (2 : Int) < (s.size : Int) := by omega
  have p2 : 2 < s.size := by omega
  have q3 : (3 : Int) < (s.size : Int) := by omega
  have p3 : 3 < s.size := by omega
  have q4 : (4 : Int) < (s.size : Int) := by omega
  have p4 : 4 < s.size := by omega
  have q5 : (5 : Int) < (s.size : Int) := by omega
  have p5 : 5 < s.size := by omega
  have q6 : (6 : Int) < (s.size : Int) := by omega
  have p6 : 6 < s.size := by omega
  have q7 : (7 : Int) < (s.size : Int) := by omega
  have p7 : 7 < s.size := by omega
  clear hc
  have mixed : Tryz.prog.follows Departure.mixedOrders = true := by kernel_rfl
  go_enter Tryz.func121, Tryz.ntmps121
  go_wp2
  go_quiet_o (fail)
  go_wp2
  go_ret
  refine ⟨?_, _, rfl⟩
  simp (disch := omega) only [u64_wrap_id, u64_or8, u64_or16, u64_or24, u64_or32, u64_or40, u64_or48, u64_or56]
  rw [hv]
  rfl
end Go.Proofs.YtodnggilomanbaaGreatDoor.Hand
