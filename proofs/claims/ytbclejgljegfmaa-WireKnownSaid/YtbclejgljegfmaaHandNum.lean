/-
  wire's reader: number: the walk.
-/
import Derived.Test.YtbclejgljegfmaaAp
import Derived.Test.YtbclejgljegfmaaHandVar
import Derived.Test.YtbclejgljegfmaaPlain
import Derived.BigQuiet
import Derived.Deep.QuietTactic
set_option maxRecDepth 100000
set_option maxHeartbeats 1000000
namespace Go.Proofs.Ytbclejgljegfmaa.Hand
open Go.RowKit Go.Proofs.YtbclejgljegfmaaW.PrintWords

/-- A reader at block g. -/
def Rdr (W : World) (g : Nat) (b : Value) (at_ num wire N : Int) (B Raw : Value) (e : Int) : Prop :=
  W.heap[g]? = some (.cells #[b, .int .i64 at_, .int .i64 num, .int .i64 wire, .int .u64 N, B, Raw, .int .i64 e] 68 (0, 0))
section
variable {W W1 : World} {g : Nat} {b B Raw : Value} {at_ num wire N e : Int}
theorem Rdr.cells (h : Rdr W g b at_ num wire N B Raw e) : W.cell? ⟨g, 0, none⟩ = some b ∧ W.cell? ⟨g, 1, none⟩ = some (.int .i64 at_) ∧ W.cell? ⟨g, 2, none⟩ = some (.int .i64 num) ∧ W.cell? ⟨g, 3, none⟩ = some (.int .i64 wire) ∧ W.cell? ⟨g, 4, none⟩ = some (.int .u64 N) ∧ W.cell? ⟨g, 5, none⟩ = some B ∧ W.cell? ⟨g, 6, none⟩ = some Raw ∧ W.cell? ⟨g, 7, none⟩ = some (.int .i64 e) := by
  have : ∀ j, W.cell? ⟨g, j, none⟩ = (#[b, .int .i64 at_, .int .i64 num, .int .i64 wire, .int .u64 N, B, Raw, .int .i64 e] : Array Value)[j]? := fun j => blk_cell h j
  exact ⟨this 0, this 1, this 2, this 3, this 4, this 5, this 6, this 7⟩
theorem Rdr.frozen (h : Rdr W g b at_ num wire N B Raw e) (j : Nat) : W.frozen? ⟨g, j, none⟩ = false := by
  simp only [World.frozen?, Rdr] at *
  simp [h]
theorem Rdr.setAt (h : Rdr W g b at_ num wire N B Raw e) (x : Int) : Rdr (W.setCell ⟨g, 1, none⟩ (.int .i64 x)) g b x num wire N B Raw e := by
  simpa [Rdr] using blk_set h 1 (.int .i64 x)
theorem Rdr.setNum (h : Rdr W g b at_ num wire N B Raw e) (x : Int) : Rdr (W.setCell ⟨g, 2, none⟩ (.int .i64 x)) g b at_ x wire N B Raw e := by
  simpa [Rdr] using blk_set h 2 (.int .i64 x)
theorem Rdr.setWire (h : Rdr W g b at_ num wire N B Raw e) (x : Int) : Rdr (W.setCell ⟨g, 3, none⟩ (.int .i64 x)) g b at_ num x N B Raw e := by
  simpa [Rdr] using blk_set h 3 (.int .i64 x)
theorem Rdr.setN (h : Rdr W g b at_ num wire N B Raw e) (x : Int) : Rdr (W.setCell ⟨g, 4, none⟩ (.int .u64 x)) g b at_ num wire x B Raw e := by
  simpa [Rdr] using blk_set h 4 (.int .u64 x)
theorem Rdr.setB (h : Rdr W g b at_ num wire N B Raw e) (x : Value) : Rdr (W.setCell ⟨g, 5, none⟩ x) g b at_ num wire N x Raw e := by
  simpa [Rdr] using blk_set h 5 x
theorem Rdr.setRaw (h : Rdr W g b at_ num wire N B Raw e) (x : Value) : Rdr (W.setCell ⟨g, 6, none⟩ x) g b at_ num wire N B x e := by
  simpa [Rdr] using blk_set h 6 x
theorem Rdr.setE (h : Rdr W g b at_ num wire N B Raw e) (x : Int) : Rdr (W.setCell ⟨g, 7, none⟩ (.int .i64 x)) g b at_ num wire N B Raw x := by
  simpa [Rdr] using blk_set h 7 (.int .i64 x)
theorem Rdr.drewN (h : Rdr W g b at_ num wire N B Raw e) (n : Nat) : Rdr (W.drewN n) g b at_ num wire N B Raw e := h
theorem Rdr.lt (h : Rdr W g b at_ num wire N B Raw e) : g < W.heap.size := blk_lt h
end
theorem set_grown (W : World) (g j : Nat) (v : Value) : W.grownBy (W.setCell ⟨g, j, none⟩ v) (some g) :=
  ⟨by simp [World.setCell], by simp [World.setCell], by simp [World.setCell], by simp [World.setCell], fun k _ hn => Below.heap_setCell W ⟨g, j, none⟩ v k (fun e => hn (by rw [e]))⟩
theorem da (W : World) (n : Nat) (r : Option Nat) : W.grownBy (W.drewN n) r := ⟨rfl, rfl, rfl, Nat.le_refl _, fun _ _ _ => rfl⟩
theorem C_grown {w w1 : World} {A : Option Addr} {l : List Int} {k : IntKind} {g : Nat} (h : (Kd.int k).C w A l.length l) (hne : 0 < l.length → ∀ b, A = some b → b.block ≠ g) (hg : w.grownBy w1 (some g)) : (Kd.int k).C w1 A l.length l := by
  refine ⟨h.1, h.2.1, fun hp => ?_⟩
  obtain ⟨ad, rfl, hc⟩ := h.2.2 hp
  refine ⟨ad, rfl, fun j p hj => ?_⟩
  obtain ⟨c, h1, h2, h3⟩ := hc j p hj
  refine ⟨c, h1, h2, fun i u hi => ?_⟩
  have h4 := h3 i u hi
  have hb : (ad.add (j * (Kd.int k).sz + i)).block = ad.block := by unfold Addr.add; split <;> rfl
  have hlt := World.block_lt_of_cell? w _ h4
  have := hg.block _ hlt (fun e => by injection e with e; exact hne hp ad rfl (by rw [← hb, e]))
  simpa [World.cell?, this] using h4
theorem bh {a b c : World} {r : Option Nat} (h : a.grownBy b r) (k : b.grownBy c r) : a.grownBy c r := World.grownBy.trans h k

theorem ofInt_u64 (a : Nat) (ha : a < 2 ^ 64) : (BitVec.ofInt 64 (a : Int)).toNat = a := by
  rw [BitVec.ofInt_natCast, BitVec.toNat_ofNat]; exact Nat.mod_eq_of_lt ha
theorem jd (a b : Nat) (ha : a < 2 ^ 64) (hb : b < 2 ^ 64) : bits .or .u64 (a : Int) (b : Int) = ((a ||| b : Nat) : Int) := by
  have hx : a ||| b < 2 ^ 64 := Nat.or_lt_two_pow ha hb
  show IntKind.u64.wrap ((BitVec.ofInt 64 (a : Int) ||| BitVec.ofInt 64 (b : Int)).toNat : Int) = _
  rw [BitVec.toNat_or, ofInt_u64 a ha, ofInt_u64 b hb]
  show (((a ||| b : Nat) : Int) % 2 ^ 64) = _
  omega
theorem or_shift {a x : Int} {m : Nat} (hm : m ≤ 63) (h0 : 0 ≤ a) (h1 : a < 2 ^ m) (hx : 0 ≤ x) (h2 : x * 2 ^ m < 2 ^ 64) : bits .or .u64 a (x * 2 ^ m) = a + x * 2 ^ m := by
  obtain ⟨a, rfl⟩ := Int.eq_ofNat_of_zero_le h0
  obtain ⟨x, rfl⟩ := Int.eq_ofNat_of_zero_le hx
  have e : ((x : Int) * 2 ^ m) = ((x * 2 ^ m : Nat) : Int) := by simp
  have h1' : a < 2 ^ m := by exact_mod_cast h1
  have h2' : x * 2 ^ m < 2 ^ 64 := by exact_mod_cast h2
  rw [e]
  have ha : a < 2 ^ 64 := Nat.lt_of_lt_of_le h1' (Nat.pow_le_pow_right (by decide) (by omega))
  rw [jd a (x * 2 ^ m) ha h2']
  have := Nat.shiftLeft_add_eq_or_of_lt h1' x
  rw [Nat.shiftLeft_eq] at this
  rw [Nat.or_comm, ← this]
  omega
theorem and127 (c : Int) (h0 : 0 ≤ c) (h1 : c ≤ 255) : bits .and .u8 c 127 = c % 128 := by
  have h : ∀ m : Fin 256, bits .and .u8 (m.1 : Int) 127 = (m.1 : Int) % 128 := p162z
  have := h ⟨c.toNat, by omega⟩
  simpa only [Int.toNat_of_nonneg h0] using this

theorem rdn_at {l : List Int} {k : Nat} (h : k < l.length) : l.drop k = rd l (k : Int) :: l.drop (k + 1) := by
  rw [List.drop_eq_getElem_cons h]
  simp [rd, List.getD_eq_getElem?_getD, List.getElem?_eq_getElem h]
theorem isB_rd {l : List Int} (h : isB l = true) (k : Nat) : 0 ≤ rd l (k : Int) ∧ rd l (k : Int) ≤ 255 := by
 rcases Nat.lt_or_ge k l.length with hi | hi
 ·have := List.all_eq_true.1 h _ (List.getElem_mem hi)
  simp only [Bool.and_eq_true, decide_eq_true_eq] at this
  simpa [rd, List.getD_eq_getElem?_getD, List.getElem?_eq_getElem hi] using this
 ·simp [rd, List.getD_eq_getElem?_getD, List.getElem?_eq_none hi]

theorem eM {x : Int} (h0 : 0 ≤ x) (h1 : x < 2 ^ 64) : IntKind.u64.wrap x = x := by
  show x % 2 ^ 64 = x
  exact Int.emod_eq_of_lt h0 h1
theorem pow_le_63 {k : Nat} (hk : k ≤ 9) : (2 : Int) ^ (7 * k) ≤ 2 ^ 63 := by
  have : (2 : Nat) ^ (7 * k) ≤ 2 ^ 63 := Nat.pow_le_pow_right (by omega) (by omega)
  exact_mod_cast this
theorem num_next {k : Nat} {a y : Int} (_ : 0 ≤ a) (h1 : a < 2 ^ (7 * k)) (h2 : 0 ≤ y) (h3 : y < 128) : a + y * 2 ^ (7 * k) < 2 ^ (7 * (k + 1)) := by
  have hp : (0 : Int) < 2 ^ (7 * k) := Int.pow_pos (by omega)
  have hq : (2 : Int) ^ (7 * (k + 1)) = 128 * 2 ^ (7 * k) := by rw [show 7 * (k + 1) = 7 * k + 7 by omega, Int.pow_add]; omega
  have h3 : y * 2 ^ (7 * k) ≤ 127 * 2 ^ (7 * k) := Int.mul_le_mul_of_nonneg_right (by omega) (by omega)
  omega
theorem num_fit {k : Nat} {a y : Int} (hk : k ≤ 9) (_ : 0 ≤ a) (_ : a < 2 ^ (7 * k)) (h2 : 0 ≤ y) (h3 : y < 128) (h4 : k = 9 → y ≤ 1) : y * 2 ^ (7 * k) < 2 ^ 64 := by
 rcases Nat.lt_or_ge k 9 with h9 | h9
 ·have hp : (0 : Int) < 2 ^ (7 * k) := Int.pow_pos (by omega)
  have hq : (2 : Int) ^ (7 * (k + 1)) = 128 * 2 ^ (7 * k) := by rw [show 7 * (k + 1) = 7 * k + 7 by omega, Int.pow_add]; omega
  have h3 : y * 2 ^ (7 * k) ≤ 127 * 2 ^ (7 * k) := Int.mul_le_mul_of_nonneg_right (by omega) (by omega)
  have := pow_le_63 (show k + 1 ≤ 9 by omega)
  have h5 : (2 : Int) ^ 63 < 2 ^ 64 := by decide
  omega
 ·obtain rfl : k = 9 := by omega
  have := h4 rfl
  have h5 : (2 : Int) ^ (7 * 9) * 2 = 2 ^ 64 := by decide
  have h3 : y * 2 ^ (7 * 9) ≤ 1 * 2 ^ (7 * 9) := Int.mul_le_mul_of_nonneg_right this (by decide)
  have h6 : (0 : Int) < 2 ^ (7 * 9) := by decide
  omega
def NumAns (l : List Int) (at0 : Nat) (b : Value) (num wire N : Int) (B Raw : Value) (g : Nat) (w : World) (e : Ending) (w' : World) : Prop :=
  e = .returned (.int .u64 (rdn (l.drop at0) 0 0).1) ∧ w.grownBy w' (some g) ∧ ∃ at_ : Nat, Rdr w' g b at_ num wire N B Raw (rdn (l.drop at0) 0 0).2.2 ∧ at_ ≤ l.length ∧ ((rdn (l.drop at0) 0 0).2.2 = 0 → at_ = at0 + (rdn (l.drop at0) 0 0).2.1)
theorem gQ (g : Nat) (A : Option Addr) (c : Nat) (l : List Int) (at0 : Nat) (num wire N : Int) (B Raw : Value) (w : World) (hR : Rdr w g (.slice A l.length c) at0 num wire N B Raw 0) (hC : (Kd.int .u8).C w A l.length l) (hne : 0 < l.length → ∀ b, A = some b → b.block ≠ g) (hat : at0 ≤ l.length) (hB : isB l = true) (hl : l.length ≤ 1099511627776) :
 Calls Try.prog 43 #[.pointer (some ⟨g, 0, none⟩)] w (NumAns l at0 (.slice A l.length c) num wire N B Raw g w) := by
 have HC := hid hC
 have HNE := hid hne
 have HB := hid hB
 clear hC hne hB
 go_enter Try.func43, Try.ntmps43
 go_wp2
 go_loopw [2, 3] (fun x i wr => ∃ (k m : Nat) (a : Int), x = .int .u64 a ∧ i = .int .i64 k ∧ 0 ≤ a ∧ k ≤ 9 ∧ m ≤ l.length ∧ Hid (m = at0 + k) ∧ Hid (a < 2 ^ (7 * k)) ∧ Hid (rdn (l.drop at0) 0 0 = rdn (l.drop m) k a) ∧
  Rdr wr g (.slice A l.length c) (m : Int) num wire N B Raw 0 ∧ w.grownBy wr (some g))
  (fun _ i _ => 10 - (intOf i).toNat)
 case atStart => exact ⟨0, at0, 0, rfl, rfl, by omega, by omega, hat, hid rfl, hid (by decide), hid rfl, hR, da w 0 _⟩
 case round =>
  obtain ⟨k, m, a, rfl, rfl, ha0, hk, hm, hmk, hab, heq, hRr, hg⟩ := hrel
  obtain ⟨h0, h1, h2, h3, h4, h5, h6, h7⟩ := hRr.cells
  have hfr := hRr.frozen
  by_cases hend : m = l.length
  case pos =>
   have HEQ := hid (show rdn (l.drop at0) 0 0 = (0, 0, 3) by rw [heq.out, List.drop_of_length_le (by omega)]; rfl)
   subst hend
   go_wp2
   go_quiet (fail)
   go_wp2
   go_ret
   unfold NumAns
   rw [HEQ.out]
   exact ⟨rfl, bh (bh hg (da _ _ _)) (set_grown _ _ _ _), _, (hRr.drewN _).setE 3, hm, by simp⟩
  have hlt : m < l.length := by omega
  obtain ⟨x, hx⟩ : ∃ x, x = rd l (m : Int) := ⟨_, rfl⟩
  have hxb := isB_rd HB.out m
  rw [← hx] at hxb
  obtain ⟨hx0, hx1⟩ := hxb
  have HX := hid (show l.drop m = x :: l.drop (m + 1) by rw [hx]; exact rdn_at hlt)
  have hCr := C_grown HC.out HNE.out hg
  obtain ⟨ad, rfl, -⟩ := hCr.2.2 (by omega)
  have hcell : wr.cell? (ad.add m) = some (.int .u8 x) := by
   have := Kd.foot_int hCr (m : Int) (by omega) (by omega)
   rw [Int.toNat_natCast, ← hx] at this
   exact this
  have hendb : ((m : Int) == (l.length : Int)) = false := beq_eq_false_iff_ne.2 (by omega)
  clear hx hCr hend
  by_cases h9 : k = 9 ∧ 1 < x
  case pos =>
   obtain ⟨rfl, hx9⟩ := h9
   have HEQ := hid (show rdn (l.drop at0) 0 0 = (0, 0, 4) by rw [heq.out, HX.out, rdn, if_pos ⟨rfl, hx9⟩])
   go_wp2
   go_quiet (fail)
   go_wp2
   go_quiet (fail)
   go_wp2
   go_ret
   unfold NumAns
   rw [HEQ.out]
   exact ⟨rfl, bh (bh (bh hg (da _ _ _)) (set_grown _ _ _ _)) (set_grown _ _ _ _), m + 1, by simpa using ((hRr.drewN _).setAt _).setE 4, by omega, by simp⟩
  obtain ⟨y, hy⟩ : ∃ y, y = x % 128 := ⟨_, rfl⟩
  have hand : bits .and .u8 x 127 = y := by rw [hy]; exact and127 x hx0 hx1
  have hy0 : 0 ≤ y := by omega
  have hy1 : y < 128 := by omega
  have HY := hid hy
  clear hy
  obtain ⟨a', ha'⟩ : ∃ a', a' = a + y * 2 ^ (7 * k) := ⟨_, rfl⟩
  have hfit := num_fit hk ha0 hab.out hy0 hy1 (by intro h; have := HY.out; omega)
  have hor : bits .or .u64 a (IntKind.u64.wrap (y * 2 ^ (7 * k))) = a' := by rw [ha', eM (Int.mul_nonneg hy0 (Int.pow_nonneg (by omega))) hfit]; exact or_shift (by omega) ha0 hab.out hy0 hfit
  have ha'0 : 0 ≤ a' := by rw [ha']; exact Int.add_nonneg ha0 (Int.mul_nonneg hy0 (Int.pow_nonneg (by omega)))
  have HA := hid ha'
  have HF := hid hfit
  clear ha' hfit
  by_cases hx8 : x < 128
  case neg =>
   have hsh : (x / 128 == 0) = false := beq_eq_false_iff_ne.2 (by omega)
   have hk9 : k < 9 := by omega
   have hkb : ((k : Int) == 9) = false := beq_eq_false_iff_ne.2 (by omega)
   have HEQ := hid (show rdn (l.drop at0) 0 0 = rdn (l.drop (m + 1)) (k + 1) a' by rw [heq.out, HX.out, rdn, if_neg (by omega), if_neg hx8, HA.out, show y = x - 128 by have := HY.out; omega])
   have HAB := hid (show a' < 2 ^ (7 * (k + 1)) by rw [HA.out]; exact num_next ha0 hab.out hy0 hy1)
   go_wp2
   go_quiet (fail)
   go_wp2
   go_quiet (fail)
   go_wp2
   go_roundw
   case rel => exact ⟨k + 1, m + 1, a', rfl, by go_num, ha'0, by omega, by omega, hid (by have := hmk.out; omega), HAB, HEQ, by simpa using (hRr.drewN _).setAt _, bh (bh hg (da _ _ _)) (set_grown _ _ _ _)⟩
   case measure => simp [intOf]; omega
  have hsh : (x / 128 == 0) = true := beq_iff_eq.2 (by omega)
  have HEQ := hid (show rdn (l.drop at0) 0 0 = (a', k + 1, 0) by rw [heq.out, HX.out, rdn, if_neg (by omega), if_pos hx8, HA.out, show y = x by have := HY.out; omega])
  rcases Nat.lt_or_ge k 9 with hk9 | hk9
  ·have hkb : ((k : Int) == 9) = false := beq_eq_false_iff_ne.2 (by omega)
   go_wp2
   go_quiet (fail)
   go_wp2
   go_quiet (fail)
   go_wp2
   go_ret
   unfold NumAns
   rw [HEQ.out]
   exact ⟨rfl, bh (bh hg (da _ _ _)) (set_grown _ _ _ _), m + 1, by simpa using (hRr.drewN _).setAt _, by omega, fun _ => show m + 1 = at0 + (k + 1) by have := hmk.out; omega⟩
  ·have hkb : ((k : Int) == 9) = true := beq_iff_eq.2 (by omega)
   have hx2 : ¬ 1 < x := by omega
   go_wp2
   go_quiet (fail)
   go_wp2
   go_quiet (fail)
   go_wp2
   go_ret
   unfold NumAns
   rw [HEQ.out]
   exact ⟨rfl, bh (bh hg (da _ _ _)) (set_grown _ _ _ _), m + 1, by simpa using (hRr.drewN _).setAt _, by omega, fun _ => show m + 1 = at0 + (k + 1) by have := hmk.out; omega⟩
end Go.Proofs.Ytbclejgljegfmaa.Hand
