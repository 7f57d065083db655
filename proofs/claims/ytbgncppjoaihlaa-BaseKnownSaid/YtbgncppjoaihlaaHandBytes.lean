/-
  base.Bytes: letters as bytes: the walk.
-/
import Derived.Test.YtbgncppjoaihlaaHandOnce
namespace Go.Proofs.Ytbgncppjoaihlaa.Hand
open Go.RowKit Go.Proofs.YtbgncppjoaihlaaW.PrintWords

/-- One letter more. -/
def stepB (st : List Int × Int × Nat) (x : Int) : List Int × Int × Nat :=
  if st.2.2 = 0 then (st.1, st.2.1 * 64 + x, 6)
  else (st.1 ++ [(st.2.1 * 64 + x) / 2 ^ (st.2.2 - 2) % 256], (st.2.1 * 64 + x) % 2 ^ (st.2.2 - 2), st.2.2 - 2)
/-- All letters, up to what is none. -/
def collB : List Int → List Int × Int × Nat → List Int × Int × Nat
  | [], st => st
  | c :: r, st => if 0 < tbUpto 64 c.toNat then collB r (stepB st (tnum c.toNat)) else st
def base_Bytes.f (a0 : ByteArray) : Option (List Int × Int) :=
  if a0.size > 2097152 then some ([], 5)
  else if enc (collB (bytesOf a0) ([], 0, 0)).1 = bytesOf a0 then some ((collB (bytesOf a0) ([], 0, 0)).1, 0) else some ([], 4)

theorem or_six {a b : Int} (h0 : 0 ≤ a) (h1 : a ≤ 16777215) (h2 : 0 ≤ b) (h3 : b < 64) : bits .or .i64 (a * 64) b = a * 64 + b := by
  obtain ⟨x, rfl⟩ := Int.eq_ofNat_of_zero_le h0
  obtain ⟨y, rfl⟩ := Int.eq_ofNat_of_zero_le h2
  have e : ((x : Int) * 64) = ((x * 64 : Nat) : Int) := by omega
  rw [e, i64_or_nat _ _ (by omega) (by omega)]
  have := Nat.shiftLeft_add_eq_or_of_lt (i := 6) (b := y) (by omega) x
  rw [Nat.shiftLeft_eq] at this
  rw [show x * 64 = x * 2 ^ 6 from rfl, ← this]
  omega
theorem and_mask {a : Int} (h0 : 0 ≤ a) (h1 : a ≤ 16777215) (k : Nat) (hk : k ≤ 20) : bits .and .i64 a (2 ^ k - 1) = a % 2 ^ k := by
  obtain ⟨x, rfl⟩ := Int.eq_ofNat_of_zero_le h0
  have hp : 0 < 2 ^ k := Nat.two_pow_pos k
  have hp2 : 2 ^ k ≤ 2 ^ 20 := Nat.pow_le_pow_right (by omega) hk
  have e : ((2 : Int) ^ k - 1) = ((2 ^ k - 1 : Nat) : Int) := by
    rw [Int.natCast_sub (by omega)]
    simp
  rw [e, i64_and_nat _ _ (by omega) (by omega), Nat.and_two_pow_sub_one_eq_mod]
  simp

def zeroTbl : Array Value := #[.int .u32 0, .int .i32 0, .int .u32 0] ++ Array.replicate 256 (.int .u8 0)
theorem table_zero (w : World) : (zeroValue 55).run Try.prog w = .ok (.agg zeroTbl) w := by kernel_rfl
theorem table_new (w : World) : Tbl (w.alloc (.cells zeroTbl 55)) w.heap.size 0 0 (tbUpto 0) :=
  ⟨zeroTbl, World.alloc_heap_new w _, by simp [zeroTbl], by rw [zeroTbl, Array.getElem?_append_left (by simp)]; rfl, by rw [zeroTbl, Array.getElem?_append_left (by simp)]; rfl, fun j hj => by
    rw [zeroTbl, Array.getElem?_append_right (by simp)]
    simp [hj, tbUpto]⟩
/-- What comes of one letter more keeps its ranges. -/
theorem tnum_range {c : Nat} (h : 0 < tbUpto 64 c) : 0 ≤ tnum c ∧ tnum c < 64 := by
  have := tbUpto_range 64 c
  unfold tnum
  omega

theorem own_heap {w w' : World} {base : Nat} {e : TypeId} {size n : Nat} {v : Value} {xs : List Value} (h : w.ownsRow base e size v n xs) (hh : ∀ g, v.ownBlock = some g → w'.heap[g]? = w.heap[g]?) : w'.ownsRow base e size v n xs := own_move h hh
theorem own_iterAt {w : World} {base b : Nat} {e : TypeId} {size n : Nat} {v : Value} {xs : List Value} {s : ByteArray} {k : Nat} (h : w.ownsRow base e size v n xs) (hk : w.heap[b]? = some (.stringIter s k)) (k' : Nat) : (w.iterAt b s k').ownsRow base e size v n xs :=
  own_heap h fun g hg => Lib.iterAt_other w b g s k' (fun e => by
    obtain ⟨cells, hc⟩ := own_typed h g hg
    rw [e, hk] at hc
    cases hc)
theorem own_tbl {w w' : World} {base T : Nat} {size n : Nat} {v : Value} {xs : List Value} {d s : Int} {f : Nat → Int} (h : w.ownsRow base 5 size v n xs) (hT : Tbl w T d s f) (hg : w.grownBy w' (some T)) : w'.ownsRow base 5 size v n xs :=
  own_heap h fun g hgo => hg.block g (own_lt h g hgo) (fun e => by
    obtain ⟨cells, hc⟩ := own_typed h g hgo
    obtain ⟨cs, hcs, _⟩ := hT
    injection e with e
    rw [e, hcs] at hc
    cases hc)
theorem bytes_drop (s : ByteArray) (k : Nat) (h : k < s.size) : (bytesOf s).drop k = ((s[k]'h).toNat : Int) :: (bytesOf s).drop (k + 1) := by
  have hl : k < (bytesOf s).length := by rw [bytesOf_length]; exact h
  rw [List.drop_eq_getElem_cons hl]
  congr 1
  simp [bytesOf]
  rfl
theorem coll_at {l r : List Int} {c : Nat} (h : l = (c : Int) :: r) (L : List Int) (nn : Int) (mm : Nat) : collB l (L, nn, mm) = if 0 < tbUpto 64 c then collB r (stepB (L, nn, mm) (tnum c)) else (L, nn, mm) := by
  rw [h, collB, Int.toNat_natCast]
theorem iter_tbl {w w' : World} {T b : Nat} {d s : Int} {f : Nat → Int} {q : ByteArray} {k : Nat} (h : w.heap[b]? = some (.stringIter q k)) (hT : Tbl w T d s f) (hg : w.grownBy w' (some T)) : w'.heap[b]? = some (.stringIter q k) :=
  (hg.block b (Array.getElem?_eq_some_iff.1 h).1 (fun e => by
    obtain ⟨cs, hcs, _⟩ := hT
    injection e with e
    rw [← e, h] at hcs
    cases hcs)).trans h
theorem iter_alloc {w : World} {b : Nat} {q : ByteArray} {k : Nat} (h : w.heap[b]? = some (.stringIter q k)) (o : Obj) : (w.alloc o).heap[b]? = some (.stringIter q k) := (Below.heap_alloc w o b (Array.getElem?_eq_some_iff.1 h).1).trans h
theorem iter_row {w w' : World} {b base : Nat} {e : TypeId} {size n : Nat} {v : Value} {xs : List Value} {q : ByteArray} {k : Nat} (h : w.heap[b]? = some (.stringIter q k)) (ho : w.ownsRow base e size v n xs) (hg : w.grownBy w' v.ownBlock) : w'.heap[b]? = some (.stringIter q k) :=
  (hg.block b (Array.getElem?_eq_some_iff.1 h).1 (fun e => by
    obtain ⟨cells, hc⟩ := own_typed ho b e.symm
    rw [h] at hc
    cases hc)).trans h
theorem tbl_not_row {w : World} {T base : Nat} {size n : Nat} {v : Value} {xs : List Value} {d s : Int} {f : Nat → Int} (hT : Tbl w T d s f) (h : w.ownsRow base 5 size v n xs) : some T ≠ v.ownBlock := fun e => by
  obtain ⟨cells, hc⟩ := own_typed h T e.symm
  obtain ⟨cs, hcs, _⟩ := hT
  rw [hcs] at hc
  cases hc
theorem below_tbl {w w' : World} {B T : Nat} (hg : w.grownBy w' (some T)) (hT : B ≤ T) (hl : T < w.heap.size) : Below B w w' := ⟨hg.os, hg.tape, hg.output, hg.size, fun i hi => hg.block i (by omega) (fun e => by injection e with e; omega)⟩
theorem mask_form {y : Int} (h0 : 0 ≤ y) (h1 : y < 4096) {mm : Nat} (hm : mm ≤ 6) : bits .and .i64 y (wrap64 (wrap64 (2 ^ (mm - 2)) - 1)) = y % 2 ^ (mm - 2) := by
  have hp : (0 : Int) < 2 ^ (mm - 2) := Int.pow_pos (by omega)
  have hp2 : (2 : Int) ^ (mm - 2) ≤ 16 := by
    have : 2 ^ (mm - 2) ≤ 2 ^ 4 := Nat.pow_le_pow_right (by omega) (by omega)
    exact_mod_cast this
  rw [show wrap64 (wrap64 (2 ^ (mm - 2)) - 1) = 2 ^ (mm - 2) - 1 by unfold wrap64; omega]
  exact and_mask h0 (by omega) _ (by omega)
theorem low_bits {mm : Nat} {nn y : Int} (hm : mm = 0 ∧ nn = 0 ∨ mm = 2 ∧ 0 ≤ nn ∧ nn < 4 ∨ mm = 4 ∧ 0 ≤ nn ∧ nn < 16 ∨ mm = 6 ∧ 0 ≤ nn ∧ nn < 64) (h2 : 2 ≤ mm) {x : Int} (_ : y = nn * 64 + x) :
    mm - 2 = 0 ∧ y % 2 ^ (mm - 2) = 0 ∨ mm - 2 = 2 ∧ 0 ≤ y % 2 ^ (mm - 2) ∧ y % 2 ^ (mm - 2) < 4 ∨ mm - 2 = 4 ∧ 0 ≤ y % 2 ^ (mm - 2) ∧ y % 2 ^ (mm - 2) < 16 ∨ mm - 2 = 6 ∧ 0 ≤ y % 2 ^ (mm - 2) ∧ y % 2 ^ (mm - 2) < 64 := by
  rcases hm with ⟨rfl, _⟩ | ⟨rfl, _⟩ | ⟨rfl, _⟩ | ⟨rfl, _⟩
  · omega
  · left; simp [Int.emod_one]
  · right; left; simp; omega
  · right; right; left; simp; omega
theorem isB_snoc {l : List Int} (h : isB l = true) {x : Int} (h0 : 0 ≤ x) (h1 : x ≤ 255) : isB (l ++ [x]) = true := by
  unfold isB at *
  rw [List.all_append, h]
  simp [h0, h1]
theorem lt_range (n : Int) : 0 ≤ lt n ∧ lt n < 128 := by
  unfold lt bt
  split
  · rename_i h
    have := letters_low ⟨n.toNat, h⟩
    rw [show letters.data[(⟨n.toNat, h⟩ : Fin 64).1]? = some (letters[n.toNat]'h) from Array.getElem?_eq_getElem h] at this
    simp only [Option.getD_some] at this
    omega
  · omega
theorem enc_range : ∀ (n : Nat) (l : List Int), l.length ≤ n → ∀ x ∈ enc l, 0 ≤ x ∧ x < 128 := by
  intro n
  induction n with
  | zero =>
    intro l hl
    obtain rfl := List.eq_nil_of_length_eq_zero (by omega : l.length = 0)
    intro x hx
    cases hx
  | succ n ih =>
    intro l hl x hx
    match l, hl, hx with
    | [], _, hx => cases hx
    | [a], _, hx =>
      simp only [enc, List.mem_cons, List.not_mem_nil, or_false] at hx
      rcases hx with rfl | rfl | rfl | rfl
      · exact lt_range _
      · exact lt_range _
      · omega
      · omega
    | [a, b], _, hx =>
      simp only [enc, List.mem_cons, List.not_mem_nil, or_false] at hx
      rcases hx with rfl | rfl | rfl | rfl
      · exact lt_range _
      · exact lt_range _
      · exact lt_range _
      · omega
    | a :: b :: c :: r, hl, hx =>
      simp only [enc, List.mem_cons] at hx
      rcases hx with rfl | rfl | rfl | rfl | hx
      · exact lt_range _
      · exact lt_range _
      · exact lt_range _
      · exact lt_range _
      · exact ih r (by simp only [List.length_cons] at hl; omega) x hx
theorem strOfNums_bytes (s : ByteArray) : strOfNums (bytesOf s) = s := by
  cases s with | mk data =>
  simp only [strOfNums, bytesOf, List.map_map]
  congr 1
  rw [show (data.toList.map ((fun n : Int => UInt8.ofNat n.toNat) ∘ fun b : UInt8 => (b.toNat : Int))) = data.toList from by
    rw [show ((fun n : Int => UInt8.ofNat n.toNat) ∘ fun b : UInt8 => (b.toNat : Int)) = id from by
      funext b
      simp]
    exact List.map_id _]
theorem bytesOf_strOfNums {l : List Int} (h : ∀ x ∈ l, 0 ≤ x ∧ x < 256) : bytesOf (strOfNums l) = l := by
  simp only [strOfNums, bytesOf, List.map_map]
  rw [List.map_congr_left (g := id) fun x hx => ?_]
  · exact List.map_id _
  · have := h x hx
    simp only [Function.comp_apply, id_eq, UInt8.toNat_ofNat']
    omega
theorem cmp_of (L : List Int) (s : ByteArray) : (strOfNums (enc L)).toList = s.toList ↔ enc L = bytesOf s := by
  have h0 : bytesOf (strOfNums (enc L)) = enc L := bytesOf_strOfNums fun x hx => by
    have := enc_range _ _ (Nat.le_refl _) x hx
    omega
  constructor
  · intro h
    have : (strOfNums (enc L)) = s := by
      rw [ByteArray.toList_eq, ByteArray.toList_eq] at h
      cases s with | mk data =>
      cases hs : strOfNums (enc L) with | mk d2 =>
      rw [hs] at h
      congr 1
      exact Array.toList_inj.1 h
    rw [← h0, this]
  · intro h
    rw [h, strOfNums_bytes]
theorem high_rune (s : ByteArray) (k : Nat) (h : k < s.size) (hh : 128 ≤ (s[k]'h).toNat) : 127 < ((Utf8.decode s k).1 : Int) := by
  have := (decode_high s k h hh).1
  omega
theorem stepB_more {L : List Int} {nn x : Int} {mm : Nat} (h : mm ≠ 0) : stepB (L, nn, mm) x = (L ++ [(nn * 64 + x) / 2 ^ (mm - 2) % 256], (nn * 64 + x) % 2 ^ (mm - 2), mm - 2) := by
  rw [stepB, if_neg h]
theorem high_ne (s : ByteArray) (k : Nat) (h : k < s.size) (hh : 128 ≤ (s[k]'h).toNat) : ¬ enc (collB (bytesOf s) ([], 0, 0)).1 = bytesOf s := by
  intro e
  have hm : ((s[k]'h).toNat : Int) ∈ bytesOf s := by
    have hl : k < (bytesOf s).length := by rw [bytesOf_length]; exact h
    have : (bytesOf s)[k] = ((s[k]'h).toNat : Int) := by simp [bytesOf]; rfl
    rw [← this]
    exact List.getElem_mem hl
  rw [← e] at hm
  have := enc_range _ _ (Nat.le_refl _) _ hm
  omega
theorem text_f {l : List Int} (h : isB l = true) (hl : l.length ≤ 1099511627776) : base_Text.f l = some (strOfNums (enc l)) := by rw [base_Text.f, if_pos ⟨h, hl⟩]
theorem C_of_own {w : World} {base : Nat} {A : Option Addr} {c : Nat} {L : List Int} (h : w.ownsRow base 5 1 (.slice A L.length c) L.length (nums .u8 L)) : (Kd.int .u8).C w A L.length L := by
  have hRR : (Kd.int .u8).R 5 w base (fun _ => True) (.slice A L.length c) L := Kd.R_of_own (enc := Value.int .u8) (h1 := fun _ => rfl) h (fun _ _ => trivial)
  obtain ⟨A', c', e, _, hC⟩ := Kd.R_reads hRR
  injection e with e1 e2 e3
  subst e1
  exact hC
/-- What is answered. -/
def BytesAns (s : ByteArray) (w : World) (e : Ending) (w' : World) : Prop :=
  ∃ v0 : Value, e = .returned (.tuple #[v0, .int .i64 (if enc (collB (bytesOf s) ([], 0, 0)).1 = bytesOf s then 0 else 4)]) ∧
      Kd.R (Kd.int .u8) 5 w' w.heap.size (fun _ => True) v0 (if enc (collB (bytesOf s) ([], 0, 0)).1 = bytesOf s then (collB (bytesOf s) ([], 0, 0)).1 else []) ∧ Below w.heap.size w w'
theorem ans_ok {s : ByteArray} {w w' : World} {L : List Int} {nn : Int} {mm : Nat} {v : Value} (hf : collB (bytesOf s) ([], 0, 0) = (L, nn, mm)) (he : enc L = bytesOf s) (ho : w'.ownsRow w.heap.size 5 1 v L.length (nums .u8 L)) (hb : Below w.heap.size w w') :
    BytesAns s w (.returned (.tuple #[v, .int .i64 0])) w' := by
  unfold BytesAns
  rw [hf, if_pos he, if_pos he]
  exact ⟨v, rfl, Kd.R_of_own (enc := Value.int .u8) (h1 := fun _ => rfl) ho (fun _ _ => trivial), hb⟩
theorem ans_no {s : ByteArray} {w w' : World} (he : ¬ enc (collB (bytesOf s) ([], 0, 0)).1 = bytesOf s) (hb : Below w.heap.size w w') :
    BytesAns s w (.returned (.tuple #[.slice none 0 0, .int .i64 4])) w' := by
  unfold BytesAns
  rw [if_neg he, if_neg he]
  exact ⟨_, rfl, Kd.R_nil _ _ _ _ _, hb⟩
set_option maxRecDepth 100000 in
set_option maxHeartbeats 4000000 in
theorem bytes_walk (s : ByteArray) (hs : s.size ≤ 2097152) (w : World) :
    Calls Try.prog 17 #[.string s] w (BytesAns s w) := by
  have hs' : (s.size : Int) ≤ 2097152 := by omega
  have hz := table_zero
  go_enter Try.func17, Try.ntmps17
  go_wp2_with fail
  obtain ⟨i0, hi, hz0, hz1, hz2⟩ := info_parts info5
  have hT0 : Tbl ((w.alloc (.cells zeroTbl 55)).iter s 0) w.heap.size 0 0 (tbUpto 0) := (table_new w).of_heap (Below.heap_alloc _ (.stringIter s 0) _ (by simp))
  have hb0 : Below w.heap.size w ((w.alloc (.cells zeroTbl 55)).iter s 0) := ((Below.refl _ w).alloc (Nat.le_refl _) _).alloc (by simp) (.stringIter s 0)
  have hi0 : ((w.alloc (.cells zeroTbl 55)).iter s 0).heap[w.heap.size + 1]? = some (.stringIter s 0) := by
    have := World.alloc_heap_new (w.alloc (.cells zeroTbl 55)) (.stringIter s 0)
    rwa [World.size_alloc] at this
  clear hz
  go_loopw [5, 6, 7] (fun v n m wr => ∃ (k mm : Nat) (L : List Int) (nn d : Int), k ≤ s.size ∧ n = .int .i64 nn ∧ m = .int .i64 mm ∧ (mm = 0 ∧ nn = 0 ∨ mm = 2 ∧ 0 ≤ nn ∧ nn < 4 ∨ mm = 4 ∧ 0 ≤ nn ∧ nn < 16 ∨ mm = 6 ∧ 0 ≤ nn ∧ nn < 64) ∧ (d = 0 ∨ d = 1) ∧
      wr.heap[w.heap.size + 1]? = some (.stringIter s k) ∧ Tbl wr w.heap.size d 0 (tbUpto (if d = 0 then 0 else 64)) ∧ wr.ownsRow w.heap.size 5 1 v L.length (nums .u8 L) ∧ L.length ≤ k ∧ Hid (isB L = true) ∧ Below w.heap.size w wr ∧
      Hid (collB ((bytesOf s).drop k) (L, nn, mm) = collB (bytesOf s) ([], 0, 0))) (fun _ _ _ wr => s.size - wr.iterPos (w.heap.size + 1))
  case atStart => exact ⟨0, 0, [], 0, 0, by omega, rfl, rfl, .inl ⟨rfl, rfl⟩, .inl rfl, hi0, hT0, by simpa [nums] using own_nil _ _ _ _, by simp, hid rfl, hb0, hid rfl⟩
  case round =>
    obtain ⟨k, mm, L, nn, d, hk, rfl, rfl, hm, hd, hik, hT, hrow, hLk, hLB, hB, hcol⟩ := hrel
    have hit := iterPos_of hik
    have hRR : (Kd.int .u8).R 5 wr w.heap.size (fun _ => True) _ L := Kd.R_of_own (enc := Value.int .u8) (h1 := fun _ => rfl) hrow (fun _ _ => trivial)
    obtain ⟨A, cv, rfl, hcv, hC⟩ := Kd.R_reads hRR
    by_cases hlt : k < s.size
    · by_cases hasc : (s[k]'hlt).toNat < 128
      · have hnx : ∀ ty, (Instr.next (.pointer (some ⟨w.heap.size + 1, 0, none⟩)) true ty).run Try.prog wr = _ := fun ty => Lib.run_next_ascii_at wr (w.heap.size + 1) s k ty hik hlt hasc
        obtain ⟨c, hc⟩ : ∃ c, c = (s[k]'hlt).toNat := ⟨_, rfl⟩
        rw [← hc] at hnx hasc
        have HC := hid hc
        clear hc
        have hT1 := hT.iterAt (k := w.heap.size + 1) (by omega) s (k + 1)
        have hrow1 := own_iterAt hrow hik (k + 1)
        have hik1 := Lib.iterAt_heap wr _ _ _ (k + 1) hik
        have hB1 := Lib.below_iterAt hB (k := w.heap.size + 1) (by omega) s (k + 1)
        have HCOL := hid (coll_at (bytes_drop s k hlt) L nn mm)
        rw [← HC.out] at HCOL
        have hsz := hB1.size
        by_cases hlet : 0 < tbUpto 64 c
        · obtain ⟨hx0, hx1⟩ := tnum_range hlet
          have hletb : decide (0 < tbUpto 64 c) = true := decide_eq_true hlet
          obtain ⟨y, hy⟩ : ∃ y, y = nn * 64 + tnum c := ⟨_, rfl⟩
          have hor : bits .or .i64 (nn * 64) (tnum c) = y := by rw [hy]; exact or_six (by omega) (by omega) hx0 hx1
          have hy0 : 0 ≤ y := by omega
          have hy1 : y < 4096 := by omega
          have HY := hid hy
          clear hy
          by_cases hm0 : mm < 2
          · go_wp2_with (go_at_call 23; refine (number_calls w.heap.size d hd c (by omega) _ hT1).mono ?_; rintro e w2 ⟨rfl, hg2, hT2⟩)
            obtain ⟨rfl, rfl⟩ : mm = 0 ∧ nn = 0 := by omega
            exact ⟨⟨k + 1, 6, L, y, 1, by omega, rfl, by simp, by have := HY.out; omega, .inr rfl, iter_tbl hik1 hT1 hg2, hT2, own_tbl hrow1 hT1 hg2, by omega, hLB, hB1.trans (below_tbl hg2 (Nat.le_refl _) hT1.lt), hid (by rw [← hcol.out, HCOL.out, if_pos hlet, stepB, if_pos rfl, HY.out])⟩, by rw [iterPos_of (iter_tbl hik1 hT1 hg2), hit]; omega⟩
          · have hm2 : 2 ≤ mm := by omega
            have hm6 : mm ≤ 6 := by omega
            go_wp2_with (first | (go_at_call 23; refine (number_calls w.heap.size d hd c (by omega) _ hT1).mono ?_; rintro e w2 ⟨rfl, hg2, hT2⟩; have hrow2 := own_tbl hrow1 hT1 hg2; have hsz2 := hg2.size) | (at_builtin; go_must (refine wpList_append_own _ rfl _ _ 22 rfl w.heap.size 5 i0 (.int .u8 0) 1 1 Try.underlying22 hi hz0 hz1 hz2 rfl (by decide) _ _ _ rfl (hrow2.alloc _) ⟨w2.heap.size, 0, none⟩ 1 1 [.int .u8 (y / 2 ^ (mm - 2) % 256)] rfl rfl (cell_one_new _ _ _) (by simp [Value.oneCell']) (by unfold maxLen; omega) (by omega) (by simp; omega) ?_); intro v' w3 hown' hgrow0 hnn; clear hnn; have hgrow : (w2.alloc (.cells #[.int .u8 (y / 2 ^ (mm - 2) % 256)] 5)).grownBy w3 (Value.slice A L.length cv).ownBlock := hgrow0; clear hgrow0))
            have hT3 : Tbl w3 w.heap.size 1 0 (tbUpto 64) := (hT2.alloc _).kept hgrow (tbl_not_row hT2 hrow2)
            have hik3 : w3.heap[w.heap.size + 1]? = some (.stringIter s (k + 1)) := iter_row (iter_alloc (iter_tbl hik1 hT1 hg2) _) (hrow2.alloc _) hgrow
            have hB3 : Below w.heap.size w w3 := ((hB1.trans (below_tbl hg2 (Nat.le_refl _) hT1.lt)).alloc (by omega) _).grown hgrow (by simp; omega) (own_base hrow2)
            exact ⟨⟨k + 1, mm - 2, L ++ [y / 2 ^ (mm - 2) % 256], y % 2 ^ (mm - 2), 1, by omega, by rw [mask_form hy0 hy1 hm6], by simp; omega, low_bits hm hm2 HY.out, .inr rfl, hik3, hT3, by simpa [nums] using hown', by simp; omega, hid (isB_snoc hLB.out (Int.emod_nonneg _ (by decide)) (Int.le_of_lt_add_one (Int.emod_lt_of_pos _ (by decide)))), hB3, hid (by rw [← hcol.out, HCOL.out, if_pos hlet, stepB_more (show mm ≠ 0 by omega), HY.out])⟩, by rw [iterPos_of hik3, hit]; omega⟩
        · have hletb : decide (0 < tbUpto 64 c) = false := decide_eq_false hlet
          have hfin : collB (bytesOf s) ([], 0, 0) = (L, nn, mm) := by rw [← hcol.out, HCOL.out, if_neg hlet]
          have HFIN := hid hfin
          have htx := text_f hLB.out (by omega : L.length ≤ 1099511627776)
          clear hfin
          by_cases heq : enc L = bytesOf s
          · have hcmp := (cmp_of L s).2 heq
            have HEQ := hid heq
            clear heq
            go_wp2_with (first | (go_at_call 23; refine (number_calls w.heap.size d hd c (by omega) _ hT1).mono ?_; rintro e w2 ⟨rfl, hg2, hT2⟩; have hrow2 := own_tbl hrow1 hT1 hg2; have hC2 := C_of_own hrow2) | (go_at_call 11; refine (base_Text.calls _ _ L _ _ hC2 hcv htx).mono ?_; rintro e w3 ⟨rfl, hB3⟩))
            go_ret2
            exact ans_ok HFIN.out HEQ.out (pw_own_below hrow2 hB3) ((hB1.trans (below_tbl hg2 (Nat.le_refl _) hT1.lt)).trans (hB3.mono (by have := hg2.size; omega)))
          · have hcmp : ((strOfNums (enc L)).toList == s.toList) = false := beq_eq_false_iff_ne.2 fun h => heq ((cmp_of L s).1 h)
            have HNE := hid (show ¬ enc (collB (bytesOf s) ([], 0, 0)).1 = bytesOf s by rw [HFIN.out]; exact heq)
            clear heq
            go_wp2_with (first | (go_at_call 23; refine (number_calls w.heap.size d hd c (by omega) _ hT1).mono ?_; rintro e w2 ⟨rfl, hg2, hT2⟩; have hrow2 := own_tbl hrow1 hT1 hg2; have hC2 := C_of_own hrow2) | (go_at_call 11; refine (base_Text.calls _ _ L _ _ hC2 hcv htx).mono ?_; rintro e w3 ⟨rfl, hB3⟩))
            go_ret2
            exact ans_no HNE.out ((hB1.trans (below_tbl hg2 (Nat.le_refl _) hT1.lt)).trans (hB3.mono (by have := hg2.size; omega)))
      · have hnx : ∀ ty, (Instr.next (.pointer (some ⟨w.heap.size + 1, 0, none⟩)) true ty).run Try.prog wr = _ := fun ty => Lib.run_next_any_at wr (w.heap.size + 1) s k ty hik hlt
        have hhi := high_rune s k hlt (by omega)
        obtain ⟨c, hc⟩ : ∃ c, c = ((Utf8.decode s k).1 : Int) := ⟨_, rfl⟩
        rw [← hc] at hnx hhi
        have HNE := hid (high_ne s k hlt (by omega))
        have hB1 := fun p => Lib.below_iterAt hB (k := w.heap.size + 1) (by omega) s p
        clear hc
        go_wp2
        go_ret2
        exact ans_no HNE.out (hB1 _)
    · have hnx : ∀ ty, (Instr.next (.pointer (some ⟨w.heap.size + 1, 0, none⟩)) true ty).run Try.prog wr = .ok (.tuple #[.bool false]) wr := fun ty => Lib.run_next_end_at wr (w.heap.size + 1) s k ty hik hlt
      have HFIN := hid (show collB (bytesOf s) ([], 0, 0) = (L, nn, mm) by rw [← hcol.out, List.drop_of_length_le (by rw [bytesOf_length]; omega)]; rfl)
      have htx := text_f hLB.out (by omega : L.length ≤ 1099511627776)
      by_cases heq : enc L = bytesOf s
      · have hcmp := (cmp_of L s).2 heq
        have HEQ := hid heq
        clear heq
        go_wp2_with (go_at_call 11; refine (base_Text.calls _ _ L _ _ hC hcv htx).mono ?_; rintro e w3 ⟨rfl, hB3⟩)
        go_ret2
        exact ans_ok HFIN.out HEQ.out (pw_own_below hrow hB3) (hB.trans (hB3.mono (by have := hB.size; omega)))
      · have hcmp : ((strOfNums (enc L)).toList == s.toList) = false := beq_eq_false_iff_ne.2 fun h => heq ((cmp_of L s).1 h)
        have HNE := hid (show ¬ enc (collB (bytesOf s) ([], 0, 0)).1 = bytesOf s by rw [HFIN.out]; exact heq)
        clear heq
        go_wp2_with (go_at_call 11; refine (base_Text.calls _ _ L _ _ hC hcv htx).mono ?_; rintro e w3 ⟨rfl, hB3⟩)
        go_ret2
        exact ans_no HNE.out (hB.trans (hB3.mono (by have := hB.size; omega)))

set_option maxRecDepth 100000 in
/-- base.Bytes, as a caller is told of it. -/
theorem base_Bytes.calls (a0 : ByteArray) (r1 : List Int) (r2 : Int) (w : World) (h : base_Bytes.f a0 = some (r1, r2)) :
    Calls Try.prog 17 #[.string a0] w fun e w' => ∃ v0_ : Value, e = .returned (.tuple #[v0_, .int .i64 r2]) ∧ Kd.R (Kd.int .u8) 5 w' w.heap.size (fun _ => True) v0_ r1 ∧ Below w.heap.size w w' := by
  unfold base_Bytes.f at h
  by_cases hs : a0.size > 2097152
  · rw [if_pos hs] at h
    simp only [Option.some.injEq, Prod.mk.injEq] at h
    obtain ⟨rfl, rfl⟩ := h
    have hs' : (2097152 : Int) < (a0.size : Int) := by omega
    go_enter Try.func17, Try.ntmps17
    go_wp2
    go_ret2
    exact ⟨_, rfl, Kd.R_nil _ _ _ _ _, Below.refl _ _⟩
  · rw [if_neg hs] at h
    refine (bytes_walk a0 (by omega) w).mono ?_
    rintro e w' ⟨v0, rfl, hR, hB⟩
    by_cases he : enc (collB (bytesOf a0) ([], 0, 0)).1 = bytesOf a0
    · rw [if_pos he] at h hR
      simp only [Option.some.injEq, Prod.mk.injEq] at h
      obtain ⟨rfl, rfl⟩ := h
      exact ⟨v0, by rw [if_pos he], hR, hB⟩
    · rw [if_neg he] at h hR
      simp only [Option.some.injEq, Prod.mk.injEq] at h
      obtain ⟨rfl, rfl⟩ := h
      exact ⟨v0, by rw [if_neg he], hR, hB⟩
end Go.Proofs.Ytbgncppjoaihlaa.Hand
