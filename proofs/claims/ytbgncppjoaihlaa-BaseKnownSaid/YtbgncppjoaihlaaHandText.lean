/-
  base.Text: bytes as letters: the walk.
-/
import Derived.Test.YtbgncppjoaihlaaHandChunk
import Derived.WalkSpells
import Derived.Test.YtbgncppjoaihlaaHandRound
namespace Go.Proofs.Ytbgncppjoaihlaa.Hand
open Go.RowKit Go.Shelf Go.Proofs.YtbgncppjoaihlaaW.PrintWords
attribute [local go_sem] Oper.semAt_some

theorem info5 : (Try.prog.info? 5).map (fun i => (i.zero, i.size, i.bytes)) = some (some (.int .u8 0), 1, 1) := by kernel_rfl
theorem ret_int {k : IntKind} {a b : Int} (h : a = b) : Ending.returned (.int k a) = .returned (.int k b) := by rw [h]

/-- base.Size of a length. -/
theorem size_calls (m : Nat) (hm : m ≤ 1099511627776) (w : World) : Calls Try.prog 14 #[.int .i64 (m : Int)] w fun e w' => e = .returned (.int .i64 (((m + 2) / 3 * 4 : Nat) : Int)) ∧ w = w' := by
  go_enter Try.func14, Try.ntmps14
  go_wp2
  go_ret
  exact ⟨ret_int (by omega), rfl⟩

/-- The number that is made of the first i bytes of a chunk (0 behind its end). -/
def numOf (c : Nat → Int) : Nat → Int
  | 0 => 0
  | i + 1 => numOf c i * 256 + c i
/-- The letter number i of a chunk of r bytes. -/
def qOf (c : Nat → Int) (r i : Nat) : Int := if r < i then 61 else lt (numOf c 3 / 64 ^ (3 - i) % 64)
/-- Chunk number x of a list: its bytes, 0 behind the end. -/
def chOf (l : List Int) (x i : Nat) : Int := l.getD (3 * x + i) 0
/-- The letters of chunk number x. -/
def quad (l : List Int) (x : Nat) : List Int := (List.range 4).map (qOf (chOf l x) (min 3 (l.length - 3 * x)))
def cat (l : List Int) (ks : List Nat) : List Int := ks.flatMap (quad l)
theorem isB_get {l : List Int} (h : isB l = true) (i : Nat) : 0 ≤ l.getD i 0 ∧ l.getD i 0 ≤ 255 := by
  rcases Nat.lt_or_ge i l.length with hi | hi
  · have := List.all_eq_true.1 h _ (List.getElem_mem hi)
    simp only [Bool.and_eq_true, decide_eq_true_eq] at this
    simpa [List.getD_eq_getElem?_getD, List.getElem?_eq_getElem hi] using this
  · simp [List.getD_eq_getElem?_getD, List.getElem?_eq_none hi]
theorem quad_drop (a b c : Int) (r : List Int) (x : Nat) : quad (a :: b :: c :: r) (x + 1) = quad r x := by
  unfold quad
  have e : min 3 ((a :: b :: c :: r).length - 3 * (x + 1)) = min 3 (r.length - 3 * x) := by simp only [List.length_cons]; omega
  rw [e]
  have f : chOf (a :: b :: c :: r) (x + 1) = chOf r x := by
    funext i
    unfold chOf
    rw [show 3 * (x + 1) + i = 3 * x + i + 1 + 1 + 1 by omega]
    simp [List.getD_eq_getElem?_getD]
  rw [f]
theorem ediv_add_mul (x y k : Int) (hk : 0 < k) (hy0 : 0 ≤ y) (hy : y < k) : (x * k + y) / k = x := by
  rw [Int.add_comm, Int.add_mul_ediv_right _ _ (by omega), Int.ediv_eq_zero_of_lt hy0 hy]; omega
theorem cat_all_at : ∀ (n : Nat) (l : List Int), l.length ≤ n → isB l = true → cat l (List.range ((l.length + 2) / 3)) = enc l := by
  intro n
  induction n with
  | zero =>
    intro l hl _
    obtain rfl := List.eq_nil_of_length_eq_zero (by omega : l.length = 0)
    rfl
  | succ n ih =>
    intro l hl hB
    match l, hl, hB with
    | [], _, _ => rfl
    | [a], _, hB =>
      have ha := isB_get hB 0
      simp only [List.getD_cons_zero] at ha
      rw [show List.range (([a].length + 2) / 3) = [0] by simp]
      simp only [cat, List.flatMap_cons, List.flatMap_nil, List.append_nil, quad, enc]
      simp only [List.range_succ, List.range_zero, List.nil_append, List.map_cons, List.map_nil, List.cons_append]
      simp [qOf, numOf, chOf]
      refine ⟨?_, ?_⟩ <;> congr 1 <;> omega
    | [a, b], _, hB =>
      have ha := isB_get hB 0
      have hb := isB_get hB 1
      simp only [List.getD_cons_zero, List.getD_cons_succ] at ha hb
      rw [show List.range (([a, b].length + 2) / 3) = [0] by simp]
      simp only [cat, List.flatMap_cons, List.flatMap_nil, List.append_nil, quad, enc]
      simp only [List.range_succ, List.range_zero, List.nil_append, List.map_cons, List.map_nil, List.cons_append]
      simp [qOf, numOf, chOf]
      refine ⟨?_, ?_, ?_⟩ <;> congr 1 <;> omega
    | a :: b :: c :: r, hl, hB =>
      have ha := isB_get hB 0
      have hb := isB_get hB 1
      have hc := isB_get hB 2
      simp only [List.getD_cons_zero, List.getD_cons_succ] at ha hb hc
      have hr : isB r = true := by
        simp only [isB, List.all_cons, Bool.and_eq_true] at hB ⊢
        exact hB.2.2.2
      have e : ((a :: b :: c :: r).length + 2) / 3 = (r.length + 2) / 3 + 1 := by simp only [List.length_cons]; omega
      rw [e, List.range_succ_eq_map]
      have f : cat (a :: b :: c :: r) (List.map Nat.succ (List.range ((r.length + 2) / 3))) = cat r (List.range ((r.length + 2) / 3)) := by
        simp only [cat, List.flatMap_map]
        congr 1
        funext x
        exact quad_drop a b c r x
      have g : cat (a :: b :: c :: r) (0 :: List.map Nat.succ (List.range ((r.length + 2) / 3))) = quad (a :: b :: c :: r) 0 ++ cat (a :: b :: c :: r) (List.map Nat.succ (List.range ((r.length + 2) / 3))) := rfl
      rw [g, f, ih r (by simp only [List.length_cons] at hl; omega) hr, enc]
      have hm : min 3 ((a :: b :: c :: r).length - 3 * 0) = 3 := by simp only [List.length_cons]; omega
      unfold quad
      rw [hm]
      simp only [List.range_succ, List.range_zero, List.nil_append, List.map_cons, List.map_nil, List.cons_append]
      simp [qOf, numOf, chOf]
      refine ⟨?_, ?_, ?_, ?_⟩ <;> congr 1 <;> omega
theorem cat_all (l : List Int) (h : isB l = true) : cat l (List.range ((l.length + 2) / 3)) = enc l := cat_all_at l.length l (Nat.le_refl _) h
theorem cat_snoc (l : List Int) (ks : List Nat) (x : Nat) : cat l (ks ++ [x]) = cat l ks ++ quad l x := by simp [cat]
theorem quad_length (l : List Int) (x : Nat) : (quad l x).length = 4 := by simp [quad]
theorem cat_length (l : List Int) (ks : List Nat) : (cat l ks).length = 4 * ks.length := by
  induction ks with
  | nil => rfl
  | cons a r ih => simp only [cat, List.flatMap_cons, List.length_append, List.length_cons, quad_length] at ih ⊢; omega

theorem ofInt_i64 (a : Nat) (ha : a < 9223372036854775808) : (BitVec.ofInt 64 (a : Int)).toNat = a := by
  rw [BitVec.ofInt_natCast, BitVec.toNat_ofNat]; exact Nat.mod_eq_of_lt (by omega)
theorem i64_or_nat (a b : Nat) (ha : a < 9223372036854775808) (hb : b < 9223372036854775808) : bits .or .i64 (a : Int) (b : Int) = ((a ||| b : Nat) : Int) := by
  have hx : a ||| b < 2 ^ 63 := Nat.or_lt_two_pow (by omega) (by omega)
  show IntKind.i64.wrap ((BitVec.ofInt 64 (a : Int) ||| BitVec.ofInt 64 (b : Int)).toNat : Int) = _
  rw [BitVec.toNat_or, ofInt_i64 a ha, ofInt_i64 b hb, IntKind.wrap_i64]
  omega
theorem i64_and_nat (a b : Nat) (ha : a < 9223372036854775808) (hb : b < 9223372036854775808) : bits .and .i64 (a : Int) (b : Int) = ((a &&& b : Nat) : Int) := by
  have hx : a &&& b < 2 ^ 63 := Nat.and_lt_two_pow _ (by omega)
  show IntKind.i64.wrap ((BitVec.ofInt 64 (a : Int) &&& BitVec.ofInt 64 (b : Int)).toNat : Int) = _
  rw [BitVec.toNat_and, ofInt_i64 a ha, ofInt_i64 b hb, IntKind.wrap_i64]
  omega
theorem or_byte {a b : Int} (h0 : 0 ≤ a) (h1 : a ≤ 16777215) (h2 : 0 ≤ b) (h3 : b ≤ 255) : bits .or .i64 (a * 256) b = a * 256 + b := by
  obtain ⟨x, rfl⟩ := Int.eq_ofNat_of_zero_le h0
  obtain ⟨y, rfl⟩ := Int.eq_ofNat_of_zero_le h2
  have e : ((x : Int) * 256) = ((x * 256 : Nat) : Int) := by omega
  rw [e, i64_or_nat _ _ (by omega) (by omega)]
  have := Nat.shiftLeft_add_eq_or_of_lt (i := 8) (b := y) (by omega) x
  rw [Nat.shiftLeft_eq] at this
  rw [show x * 256 = x * 2 ^ 8 from rfl, ← this]
  omega
theorem numOf_range {c : Nat → Int} (h : ∀ j, 0 ≤ c j ∧ c j ≤ 255) (i : Nat) (hi : i ≤ 3) : 0 ≤ numOf c i ∧ numOf c i ≤ 16777215 := by
  have h0 := h 0
  have h1 := h 1
  have h2 := h 2
  rcases i with _ | _ | _ | _ | i
  · simp [numOf]
  · simp only [numOf]; omega
  · simp only [numOf]; omega
  · simp only [numOf]; omega
  · omega
theorem chOf_out {l : List Int} {x i : Nat} (h : l.length ≤ 3 * x + i) : chOf l x i = 0 := by simp [chOf, List.getD_eq_getElem?_getD, List.getElem?_eq_none h]
theorem letter_at (q : Int) (h' : q.toNat < letters.size) : ((letters[q.toNat]'h').toNat : Int) = lt q := bt_at letters q h'
theorem own_alloc_drew {w : World} {base : Nat} {e : TypeId} {size n : Nat} {v : Value} {xs : List Value} (h : w.ownsRow base e size v n xs) (o : Obj) : (w.alloc o).drew.ownsRow base e size v n xs := h.alloc o
theorem cell_one_drew (w : World) (v : Value) (e : TypeId) : ∀ (j : Nat) u, [v][j]? = some u → (w.alloc (.cells #[v] e)).drew.cell? ((⟨w.heap.size, 0, none⟩ : Addr).add j) = some u := cell_one_new w v e
/-- Behind an append through a box another box lies as it lay. -/
theorem kept_box {W w1 : World} {n₀ B B' : Nat} {t' e : TypeId} {size : Nat} {u v v' : Value} {k : Nat} {xs : List Value} {tmp : Obj} (hb : Boxed W B' t' u) (hne : B' ≠ B) (hte : t' ≠ e) (hrow : W.ownsRow n₀ e size v k xs) (hgrow : (W.alloc tmp).grownBy w1 v.ownBlock) : Boxed (w1.setCell ⟨B, 0, none⟩ v') B' t' u :=
  ((hb.alloc tmp).kept hgrow (hb.not_row hte hrow)).other hne v'
theorem numOf_max {c : Nat → Int} (h : ∀ j, 0 ≤ c j ∧ c j ≤ 255) : 0 ≤ numOf c 3 ∧ numOf c 3 ≤ 16777215 := numOf_range h 3 (by omega)
/-- Six bits of the number of a chunk. -/
theorem and_six {c : Nat → Int} (h : ∀ j, 0 ≤ c j ∧ c j ≤ 255) (i : Nat) (hi : i < 4) : ∃ q, q = numOf c 3 / 64 ^ (3 - i) % 64 ∧ 0 ≤ q ∧ q < 64 ∧ bits .and .i64 (numOf c 3 / 2 ^ (18 - 6 * (i : Int)).toNat) 63 = q ∧ q.toNat < 64 := by
  obtain ⟨h0, h1⟩ := numOf_max h
  obtain ⟨m, hm⟩ := Int.eq_ofNat_of_zero_le h0
  refine ⟨_, rfl, by omega, by omega, ?_, by omega⟩
  rw [hm]
  have e : (2 : Int) ^ (18 - 6 * (i : Int)).toNat = 64 ^ (3 - i) := by
    rcases i with _ | _ | _ | _ | i
    · rfl
    · rfl
    · rfl
    · rfl
    · omega
  rw [e]
  have e2 : (m : Int) / 64 ^ (3 - i) = ((m / 64 ^ (3 - i) : Nat) : Int) := by simp
  rw [e2]
  have hle : m / 64 ^ (3 - i) ≤ m := Nat.div_le_self _ _
  have := i64_and_nat (m / 64 ^ (3 - i)) 63 (by omega) (by omega)
  rw [show ((63 : Nat) : Int) = 63 from rfl] at this
  rw [this, show 63 = 2 ^ 6 - 1 from rfl, Nat.and_two_pow_sub_one_eq_mod]
  rfl
theorem hid {p : Prop} (h : p) : Hid p := h

set_option maxRecDepth 100000 in
set_option maxHeartbeats 4000000 in
theorem text_in (n : Nat) (hn : 3 ≤ n) (A : Option Addr) (b off cap : Nat) (l0 : List Int) (hA : 0 < l0.length → A = some ⟨b, off, none⟩) (hlen : l0.length ≤ 1099511627776) (hcap : l0.length ≤ cap) (w : World) (hb : 0 < l0.length → b < w.heap.size)
    (hc : ∀ j, j < l0.length → w.cell? ⟨b, off + j, none⟩ = some (.int .u8 (l0.getD j 0))) (hB : isB l0 = true) :
    CallsIn Fence.wide n Try.prog 11 #[.slice A l0.length cap] w fun e w' => e = .returned (.string (strOfNums (enc l0))) ∧ Below w.heap.size w w' := by
  have h1 : 1 ≤ n := by omega
  obtain ⟨i0, hi, hz0, hz1, hz2⟩ := info_parts info5
  refine callsIn_of_wp_marks Try.func11 rfl trivial ?_ rfl
  simp only [Try.ntmps11, List.size_toArray, List.length_cons, List.length_nil, Nat.reduceAdd, Nat.reduceSub, Array.replicate_succ, Array.replicate_zero, List.push_toArray, List.append_toArray, List.nil_append, List.cons_append]
  gi_wp2_with (first | (refine ⟨trivial, ?_⟩; gi_at_call 14; refine (callsIn_wide.2 (size_calls _ hlen _)).mono ?_; rintro e w' ⟨rfl, rfl⟩) | (refine ⟨trivial, ?_⟩; gi_at_call 20; refine (chunk_in (n - 1) _ _ _ _).mono ?_; rintro e w' ⟨rfl, rfl⟩) | (gi_at_make; refine wpListIn_make_own _ rfl _ _ 22 rfl w.heap.size 5 i0 (.int .u8 0) 1 Try.underlying22 hi hz0 hz1 _ _ _ ((l0.length + 2) / 3 * 4) rfl rfl rfl (by rw [hz2]; omega) (by unfold maxLen; omega) (Nat.le_refl _) ?_; intro w1 hown1 hg1))
  have hw1 : w.heap.size ≤ w1.heap.size := hg1.size
  have bO := Boxed.new w1 22 (.slice (some ⟨w.heap.size, 0, none⟩) 0 ((l0.length + 2) / 3 * 4))
  have bS := Boxed.new (w1.alloc (.cells #[.slice (some ⟨w.heap.size, 0, none⟩) 0 ((l0.length + 2) / 3 * 4)] 22)) 22 (.slice A l0.length cap)
  have bN := Boxed.new ((w1.alloc (.cells #[.slice (some ⟨w.heap.size, 0, none⟩) 0 ((l0.length + 2) / 3 * 4)] 22)).alloc (.cells #[.slice A l0.length cap] 22)) 3 (.int .i64 3)
  simp only [World.size_alloc] at bS bN
  have hB0 : Below w.heap.size w (((w1.alloc (.cells #[.slice (some ⟨w.heap.size, 0, none⟩) 0 ((l0.length + 2) / 3 * 4)] 22)).alloc (.cells #[.slice A l0.length cap] 22)).alloc (.cells #[.int .i64 3] 3)) :=
    (((Below.refl w.heap.size w).grown hg1 (Nat.le_refl _) (fun k e => by cases e)).alloc hw1 _ |>.alloc (by simp; omega) _).alloc (by simp; omega) _
  obtain ⟨N, hN⟩ : ∃ N, N = (l0.length + 2) / 3 := ⟨_, rfl⟩
  refine wpIn_rangeFunc_ownG (α := Fin N) rfl h1 (gf := 25) (lb := #[.pointer (some ⟨w1.heap.size + 1, 0, none⟩), .pointer (some ⟨w1.heap.size + 1 + 1, 0, none⟩)]) rfl trivial (enters_of Try.func25 (by kernel_rfl) rfl)
    (chunk_stops (n - 1) (by omega) (w1.heap.size + 1) (w1.heap.size + 1 + 1) w.heap.size A b off l0.length cap N hN hA hlen hcap _ (bS.alloc _) bN) keepTwo_t (keepTwo_b (by simp; omega) (by simp) (by simp)) (Below.refl _ _) (fun _ => rfl)
    (fun pre W => (∃ v, Boxed W w1.heap.size 22 v ∧ W.ownsRow w.heap.size 5 1 v (cat l0 (pre.map Fin.val)).length (nums .u8 (cat l0 (pre.map Fin.val))) ∧ ∃ g c, v = .slice (some ⟨g, 0, none⟩) (cat l0 (pre.map Fin.val)).length c) ∧ (Boxed W (w1.heap.size + 1) 22 (.slice A l0.length cap) ∧ Boxed W (w1.heap.size + 1 + 1) 3 (.int .i64 3)) ∧ Below w.heap.size w W)
    (fun _ _ _ => False)
    (OwnFrom.and (Own.from (holdsRow_own w.heap.size w1.heap.size 22 5 1 (fun pre : List (Fin N) => (cat l0 (pre.map Fin.val)).length) (fun pre => nums .u8 (cat l0 (pre.map Fin.val))) (fun pre v => ∃ g c, v = .slice (some ⟨g, 0, none⟩) (cat l0 (pre.map Fin.val)).length c)) _) (OwnFrom.and (OwnFrom.and (Own.from (boxed_own _ _ (fun _ => _)) _) (Own.from (boxed_own _ _ (fun _ => _)) _)) (ownFrom_below (Nat.le_refl _) (by simp; omega))))
    (fun _ _ _ _ _ hs _ _ => hs)
    ⟨⟨_, (bO.alloc _).alloc _, by simpa [cat, nums] using ((hown1.alloc _).alloc _).alloc _, _, _, rfl⟩, ⟨bS.alloc _, bN⟩, hB0⟩
    (fun x => { tmps := #[.slice A l0.length cap, undef, .string ⟨#[]⟩, .pointer (some ⟨w1.heap.size, 0, none⟩), chunkV b off l0.length x.1, undef, undef, undef, .slice A l0.length cap, .int .i64 l0.length, .int .i64 (((l0.length : Int) + 2) / 3 * 4), .slice (some ⟨w.heap.size, 0, none⟩) 0 ((l0.length + 2) / 3 * 4), .slice A l0.length cap,
        .func (.func 25) #[] #[.pointer (some ⟨w1.heap.size + 1, 0, none⟩), .pointer (some ⟨w1.heap.size + 1 + 1, 0, none⟩)], chunkV b off l0.length x.1, undef, undef, undef, undef, undef, undef, undef, undef, undef, undef, undef, undef, undef, undef, undef, undef, undef, undef, undef, undef, undef, undef, undef, undef, undef, undef, undef, undef, undef, undef, undef, undef, undef, undef, undef, undef, undef, undef, undef, undef], defers := [] }) ?assign ?body ?done ?stop
  case assign =>
    intro l x W K hK
    gi_wp2
    exact hK
  case body =>
    rintro l pre x W ⟨⟨v, hv, hrow, g, cv, rfl⟩, ⟨hbs, hbn⟩, hBw⟩ hlt
    have hx3 : 3 * x.1 < l0.length := by have := x.2; omega
    obtain rfl := hA (by omega)
    obtain ⟨o3, ho3⟩ : ∃ o3, o3 = off + 3 * x.1 := ⟨_, rfl⟩
    obtain ⟨r, hr⟩ : ∃ r, r = min 3 (l0.length - 3 * x.1) := ⟨_, rfl⟩
    have hr1 : 1 ≤ r := by omega
    have hr3 : r ≤ 3 := by omega
    have hch : chunkV b off l0.length x.1 = .slice (some ⟨b, o3, none⟩) r r := by rw [chunkV, ← ho3, ← hr]
    have hcx : ∀ j, j < r → W.cell? ⟨b, o3 + j, none⟩ = some (.int .u8 (chOf l0 x.1 j)) := fun j hj => by
      have := (hBw.cell (p := ⟨b, off + (3 * x.1 + j), none⟩) (hb (by omega))).trans (hc (3 * x.1 + j) (by omega))
      rw [ho3, Nat.add_assoc]
      exact this
    have hcb : ∀ j, 0 ≤ chOf l0 x.1 j ∧ chOf l0 x.1 j ≤ 255 := fun j => isB_get hB _
    have hR := hid ho3
    have hR2 := hid hr
    have HC := hid hc
    have HX := hid hcx
    have HCB := hid hcb
    have HLT := hid (show pre.length < (l0.length + 2) / 3 by omega)
    clear ho3 hr hc hcx hcb hlt
    rw [hch]
    clear hch
    gi_wp2
    gi_loop [5, 15] (fun s5 s15 => ∃ i : Nat, i ≤ 3 ∧ s15 = .int .i64 i ∧ s5 = .int .i64 (numOf (chOf l0 x.1) i)) (fun _ s15 => 3 - (intOf s15).toNat)
    case atStart => exact ⟨0, by omega, rfl, rfl⟩
    case round =>
      obtain ⟨i, hi3, rfl, rfl⟩ := hrel
      by_cases hlt : i < 3
      · by_cases hir : i < r
        · have hcell := HX.out i hir
          have hcr := HCB.out i
          have hnb := numOf_range HCB.out i (by omega)
          gi_wp2
          refine ⟨⟨i + 1, by omega, by go_num, ?_⟩, by simp [intOf]; omega⟩
          rw [or_byte hnb.1 hnb.2 hcr.1 hcr.2]
          rfl
        · have hz : chOf l0 x.1 i = 0 := chOf_out (by have := hR2.out; omega)
          have hnb := numOf_range HCB.out i (by omega)
          gi_wp2
          refine ⟨⟨i + 1, by omega, by go_num, ?_⟩, by simp [intOf]; omega⟩
          simp [numOf, hz]
      · obtain rfl : i = 3 := by omega
        gi_wp2
        obtain ⟨L0, hL0⟩ : ∃ L0, L0 = cat l0 (pre.map Fin.val) := ⟨_, rfl⟩
        rw [← hL0] at hv hrow
        have HL0 := hid hL0
        clear hL0
        gi_loopw [32] (fun s32 wr => ∃ (i : Nat) (L : List Int), i ≤ 4 ∧ s32 = .int .i64 i ∧ Hid (L = L0 ++ (List.range i).map (qOf (chOf l0 x.1) r)) ∧ (∃ v, Boxed wr w1.heap.size 22 v ∧ wr.ownsRow w.heap.size 5 1 v L.length (nums .u8 L) ∧ ∃ g c, v = .slice (some ⟨g, 0, none⟩) L.length c) ∧
            (Boxed wr (w1.heap.size + 1) 22 (.slice (some ⟨b, off, none⟩) l0.length cap) ∧ Boxed wr (w1.heap.size + 1 + 1) 3 (.int .i64 3)) ∧ Below w.heap.size W wr ∧ KeepsFrom (w1.heap.size + 3) W wr) (fun s32 _ => 4 - (intOf s32).toNat)
        case atStart => exact ⟨0, L0, by omega, rfl, hid (by simp), ⟨_, hv, hrow, g, cv, rfl⟩, ⟨hbs, hbn⟩, Below.refl _ _, KeepsFrom.refl _ _⟩
        case round =>
          obtain ⟨i, L, hi4, rfl, HL, ⟨v2, hv2, hrow2, g2, c2, rfl⟩, ⟨hbs2, hbn2⟩, hBw2, hKF⟩ := hrel
          have hcell := hv2.cell
          have hfroz := hv2.frozen
          have hsz2 : w.heap.size ≤ wr.heap.size := Nat.le_trans hBw.size hBw2.size
          have hcl : L.length ≤ 5000000000000 := by
            rw [HL.out, HL0.out, List.length_append, cat_length, List.length_map, List.length_map, List.length_range]
            have := HLT.out
            omega
          have hcl1 : L.length + 1 ≤ maxLen := by unfold maxLen; omega
          have hcl2 : (L.length + 1) * 1 ≤ 140737488355328 := by omega
          by_cases hlt : i < 4
          · by_cases hir : r < i
            · gi_wp2_with (gi_at_builtin; go_must (refine wpListIn_append_own _ rfl _ _ 22 rfl w.heap.size 5 i0 (.int .u8 0) 1 1 Try.underlying22 hi hz0 hz1 hz2 rfl (by decide) _ _ _ rfl (hrow2.alloc _) ⟨wr.heap.size, 0, none⟩ 1 1 [.int .u8 61] rfl rfl (cell_one_new _ _ _) (by simp [Value.oneCell']) hcl1 hcl2 (by simp; omega) ?_); intro v' w2 hown' hgrow _; obtain ⟨g', cap', rfl⟩ := ownsRow_succ hown'; obtain ⟨hv1, hv2', hr2, hk2, hb2⟩ := hv2.appended (by decide) hrow2 hsz2 hw1 hown' hgrow; have hc1 := hv1.cell; have hf1 := hv1.frozen)
              refine ⟨⟨i + 1, L ++ [61], by omega, by go_num, hid (by rw [HL.out, List.range_succ, List.map_append, List.append_assoc]; simp [qOf, hir]), ⟨_, hv2', by simpa [nums] using hr2, g', cap', by simp⟩, ⟨kept_box hbs2 (by omega) (by decide) hrow2 hgrow, kept_box hbn2 (by omega) (by decide) hrow2 hgrow⟩, hBw2.trans hb2, hKF.trans (hk2.from _)⟩, by simp [intOf]; omega⟩
            · gi_wp2
              refine wpIn_region_round (by kernel_rfl) (by kernel_rfl) ?_
              refine wpAny_take (i := 1) (v := .int .i64 (numOf (chOf l0 x.1) 3)) rfl (by kernel_rfl) (by kernel_rfl) (by kernel_rfl) (fun _ _ _ h => h) (Or.inl ⟨by rfl, (by intro w; go_simp)⟩) ?_
              refine wpAny_take (i := 2) (v := .int .i64 i) rfl (by kernel_rfl) (by kernel_rfl) (by kernel_rfl) (fun _ _ _ h => h) (Or.inl ⟨by rfl, (by intro w; go_simp)⟩) ?_
              refine wpAny_take (i := 3) (v := .int .i64 (6 * i)) rfl (by kernel_rfl) (by kernel_rfl) (by kernel_rfl) (fun _ _ _ h => h) (Or.inl ⟨by rfl, (by intro w; go_simp; rw [IntKind.wrap_i64]; omega)⟩) ?_
              refine wpAny_take (i := 4) (v := .int .i64 (18 - 6 * i)) rfl (by kernel_rfl) (by kernel_rfl) (by kernel_rfl) (fun _ _ _ h => h) (Or.inl ⟨by rfl, (by intro w; go_simp; rw [IntKind.wrap_i64]; omega)⟩) ?_
              refine wpAny_take (i := 5) (v := .int .i64 (numOf (chOf l0 x.1) 3 / 2 ^ (18 - 6 * (i : Int)).toNat)) rfl (by kernel_rfl) (by kernel_rfl) (by kernel_rfl) (fun _ _ _ h => h) (Or.inl ⟨by rfl, (by intro w; go_simp)⟩) ?_
              have hcellA : ∀ o, (wr.alloc o).cell? ⟨w1.heap.size, 0, none⟩ = some (.slice (some ⟨g2, 0, none⟩) L.length c2) := fun o => (hv2.alloc o).cell
              obtain ⟨qv, hqv, hq0, hq1, hand, hlt6⟩ := and_six HCB.out i hlt
              have HQ := hid hqv
              clear hqv
              refine wpAny_take (i := 6) (v := .int .i64 qv) rfl (by kernel_rfl) (by kernel_rfl) (by kernel_rfl) (fun _ _ _ h => h) (Or.inl ⟨by rfl, (by intro w; go_simp)⟩) ?_
              refine wpAny_take (i := 7) (v := .int .u8 (lt qv)) rfl (by kernel_rfl) (by kernel_rfl) (by kernel_rfl) (fun _ _ _ h => h) (Or.inl ⟨by rfl, (by intro w; go_simp; exact letter_at qv _)⟩) ?_
              refine wpAny_ready (rs := [0, 8]) (by kernel_rfl) (by simp) ?_
              refine AllReady.cons rfl (fun K hK => ?_) (AllReady.cons rfl (fun K hK => ?_) AllReady.nil)
              · go_simp
                refine hK _ _ ?_
                clear hK K
                refine wpAny_ready (rs := [8]) (by kernel_rfl) (by simp) ?_
                refine AllReady.cons rfl (fun K hK => ?_) AllReady.nil
                go_simp
                refine hK _ _ ?_
                clear hK K
                refine wpAny_ready (rs := [9]) (by kernel_rfl) (by simp) ?_
                refine AllReady.cons rfl (fun K hK => ?_) AllReady.nil
                refine step_append_lies _ rfl _ _ 22 rfl w.heap.size 5 i0 (.int .u8 0) 1 1 Try.underlying22 hi hz0 hz1 hz2 rfl (by decide) _ _ _ rfl (own_alloc_drew hrow2 _) ⟨wr.heap.size, 0, none⟩ 1 1 [.int .u8 (lt qv)] rfl rfl (cell_one_drew wr _ _) (by simp [Value.oneCell']) (by decide) hcl1 hcl2 (by simp; omega) _ rfl ?_
                intro g' cap' w2 hown' hgrow0 _ _
                have hgrow : (wr.alloc (.cells #[.int .u8 (lt qv)] 5)).grownBy w2 (Value.slice (some ⟨g2, 0, none⟩) L.length c2).ownBlock := ⟨hgrow0.os, hgrow0.tape, hgrow0.output, hgrow0.size, hgrow0.block⟩
                obtain ⟨hv1, hv2', hr2, hk2, hb2⟩ := hv2.appended (by decide) hrow2 hsz2 hw1 hown' hgrow
                have hc1 := hv1.cell
                have hf1 := hv1.frozen
                refine hK _ _ ?_
                clear hK K
                refine wpAny_ready (rs := [10]) (by kernel_rfl) (by simp) ?_
                refine AllReady.cons rfl (fun K hK => ?_) AllReady.nil
                go_simp
                refine hK _ _ ?_
                clear hK K
                refine wpAny_done (by kernel_rfl) ?_ _
                show Exit.inBlock 5 _ Exit.normal _ _
                gi_wp2
                refine ⟨⟨i + 1, L ++ [lt qv], by omega, by go_num, hid (by rw [HL.out, List.range_succ, List.map_append, List.append_assoc]; simp [qOf, hir, HQ.out]), ⟨_, hv2', by simpa [nums] using hr2, g', cap', by simp⟩, ⟨kept_box hbs2 (by omega) (by decide) hrow2 hgrow, kept_box hbn2 (by omega) (by decide) hrow2 hgrow⟩, hBw2.trans hb2, hKF.trans (hk2.from _)⟩, by simp [intOf]; omega⟩
              · go_simp
                refine hK _ _ ?_
                clear hK K
                refine wpAny_ready (rs := [0]) (by kernel_rfl) (by simp) ?_
                refine AllReady.cons rfl (fun K hK => ?_) AllReady.nil
                go_simp
                refine hK _ _ ?_
                clear hK K
                refine wpAny_ready (rs := [9]) (by kernel_rfl) (by simp) ?_
                refine AllReady.cons rfl (fun K hK => ?_) AllReady.nil
                refine step_append_lies _ rfl _ _ 22 rfl w.heap.size 5 i0 (.int .u8 0) 1 1 Try.underlying22 hi hz0 hz1 hz2 rfl (by decide) _ _ _ rfl (own_alloc_drew hrow2 _) ⟨wr.heap.size, 0, none⟩ 1 1 [.int .u8 (lt qv)] rfl rfl (cell_one_drew wr _ _) (by simp [Value.oneCell']) (by decide) hcl1 hcl2 (by simp; omega) _ rfl ?_
                intro g' cap' w2 hown' hgrow0 _ _
                have hgrow : (wr.alloc (.cells #[.int .u8 (lt qv)] 5)).grownBy w2 (Value.slice (some ⟨g2, 0, none⟩) L.length c2).ownBlock := ⟨hgrow0.os, hgrow0.tape, hgrow0.output, hgrow0.size, hgrow0.block⟩
                obtain ⟨hv1, hv2', hr2, hk2, hb2⟩ := hv2.appended (by decide) hrow2 hsz2 hw1 hown' hgrow
                have hc1 := hv1.cell
                have hf1 := hv1.frozen
                refine hK _ _ ?_
                clear hK K
                refine wpAny_ready (rs := [10]) (by kernel_rfl) (by simp) ?_
                refine AllReady.cons rfl (fun K hK => ?_) AllReady.nil
                go_simp
                refine hK _ _ ?_
                clear hK K
                refine wpAny_done (by kernel_rfl) ?_ _
                show Exit.inBlock 5 _ Exit.normal _ _
                gi_wp2
                refine ⟨⟨i + 1, L ++ [lt qv], by omega, by go_num, hid (by rw [HL.out, List.range_succ, List.map_append, List.append_assoc]; simp [qOf, hir, HQ.out]), ⟨_, hv2', by simpa [nums] using hr2, g', cap', by simp⟩, ⟨kept_box hbs2 (by omega) (by decide) hrow2 hgrow, kept_box hbn2 (by omega) (by decide) hrow2 hgrow⟩, hBw2.trans hb2, hKF.trans (hk2.from _)⟩, by simp [intOf]; omega⟩
          · obtain rfl : i = 4 := by omega
            gi_wp2
            have hq : L = cat l0 ((pre ++ [x]).map Fin.val) := by
              rw [HL.out, HL0.out, List.map_append, List.map_singleton, cat_snoc, quad, ← hR2.out]
            subst hq
            exact ⟨by simpa [World.size_alloc, Nat.add_assoc] using hKF, ⟨hBw2, hbs2.trans hbs.symm, hbn2.trans hbn.symm⟩, ⟨_, hv2, hrow2, g2, c2, rfl⟩, ⟨hbs2, hbn2⟩, hBw.trans hBw2⟩
  case done =>
    rintro D ys W hD hys ⟨⟨v, hv, hrow, g, cv, rfl⟩, ⟨hbs, hbn⟩, hBw⟩ hK
    have hL : cat l0 (ys.map Fin.val) = enc l0 := by rw [hys, hN, cat_all _ hB]
    rw [hL] at hv hrow
    have hcell := hv.cell
    have hcv := own_string (P := Try.prog) Try.underlying22 Try.underlying5 Try.underlying9 hrow
    gi_wp2
    refine ⟨by simp, .inl ⟨_, _, rfl, run_takeDeferred hK, ?_⟩⟩
    exact ⟨_, results_tmp rfl _ _ _, rfl, hBw.trans (belowK_b (w := w) (Nat.le_refl _) W D _ _ (by simp at hD; omega) hK rfl rfl)⟩
  case stop =>
    rintro D c pre W _ _ h _
    exact h.elim

/-- The cells of bytes that are read. -/
theorem cells_of {w : World} {A : Option Addr} {xs : List Int} (h : (Kd.int .u8).C w A xs.length xs) :
    ∃ b off, (0 < xs.length → A = some ⟨b, off, none⟩) ∧ (0 < xs.length → b < w.heap.size) ∧ ∀ j, j < xs.length → w.cell? ⟨b, off + j, none⟩ = some (.int .u8 (xs.getD j 0)) := by
  have hr := Kd.reads_of_C (enc := Value.int .u8) (d := (0 : Int)) (h1 := fun _ => rfl) h
  rcases Nat.eq_zero_or_pos xs.length with h0 | h0
  · exact ⟨0, 0, fun hh => by omega, fun hh => by omega, fun j hj => by omega⟩
  · obtain ⟨ad, e, hc⟩ := hr.2.2 h0
    obtain ⟨b, off, spot⟩ := ad
    have h00 := hc 0 h0
    have hs : spot = none := by
      have := World.cell?_spot h00
      simpa [Addr.add] using this
    subst hs
    refine ⟨b, off, fun _ => e, fun _ => ?_, fun j hj => ?_⟩
    · have := World.block_lt_of_cell? w _ h00
      simpa [Addr.add] using this
    · have := hc j hj
      by_cases hj0 : j = 0
      · subst hj0
        simpa [Addr.add] using this
      · simpa [Addr.add, hj0] using this

/-- base.Text, as a caller is told of it. -/
theorem base_Text.calls (A0 : Option Addr) (c0 : Nat) (l0 : List Int) (r : ByteArray) (w : World) (hr0 : Kd.C (Kd.int .u8) w A0 l0.length l0) (hc0 : l0.length ≤ c0) (h : base_Text.f l0 = some r) :
    Calls Try.prog 11 #[.slice A0 l0.length c0] w fun e w' => e = .returned (.string r) ∧ Below w.heap.size w w' := by
  unfold base_Text.f at h
  by_cases hh : isB l0 = true ∧ l0.length ≤ 1099511627776
  · rw [if_pos hh] at h
    obtain rfl := Option.some.inj h
    obtain ⟨b, off, hA, hb, hc⟩ := cells_of hr0
    exact (callsIn_wide (n := 3)).1 (text_in 3 (by omega) A0 b off c0 l0 hA hh.2 hc0 w hb hc hh.1)
  · rw [if_neg hh] at h
    cases h

end Go.Proofs.Ytbgncppjoaihlaa.Hand
