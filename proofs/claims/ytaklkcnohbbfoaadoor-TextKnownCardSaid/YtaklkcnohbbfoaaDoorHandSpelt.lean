/-
  text.spelt: the walk.
-/
import Derived.Test.YtaklkcnohbbfoaaDoorHandDigits
import Derived.Test.YtaklkcnohbbfoaaDoorHandRune
import Derived.Test.YtaklkcnohbbfoaaDoorHandMap
import Derived.WalkMore
namespace Go.Proofs.YtaklkcnohbbfoaaDoor.Hand
open Go.RowKit Go.Maps Go.Proofs.YtaklkcnohbbfoaaDoorW.PrintWords
set_option linter.unusedVariables false
set_option linter.unusedSimpArgs false

def escD : DataW Unit := lay [(97, 7), (98, 8), (102, 12), (110, 10), (114, 13), (116, 9), (118, 11), (92, 92), (39, 39), (34, 34), (63, 63)] (.map [])
def escV (c : Int) : Int := if c = 97 then 7 else if c = 98 then 8 else if c = 102 then 12 else if c = 110 then 10 else if c = 114 then 13 else if c = 116 then 9 else if c = 118 then 11 else if c = 92 then 92 else if c = 39 then 39 else if c = 34 then 34 else if c = 63 then 63 else 0
def escH (c : Int) : Bool := decide (c = 97) || decide (c = 98) || decide (c = 102) || decide (c = 110) || decide (c = 114) || decide (c = 116) || decide (c = 118) || decide (c = 92) || decide (c = 39) || decide (c = 34) || decide (c = 63)
theorem esc_all : ∀ c : Fin 256, num? (escD.atKey (.int .u8 (c.val : Int)) (.lit (.int .u8 0))) = escV (c.val : Int) ∧ Maps.has escD (.int .u8 (c.val : Int)) = escH (c.val : Int) := by decide +kernel
theorem esc_has {c : Int} (h0 : 0 ≤ c) (h1 : c ≤ 255) : Maps.has escD (.int .u8 c) = escH c := by
  have := (esc_all ⟨c.toNat, by omega⟩).2
  rwa [show (((⟨c.toNat, by omega⟩ : Fin 256).val : Nat) : Int) = c from Int.toNat_of_nonneg h0] at this
theorem esc_val {c x : Int} (h0 : 0 ≤ c) (h1 : c ≤ 255) (h : escD.atKey (.int .u8 c) (.lit (.int .u8 0)) = .lit (.int .u8 x)) : x = escV c := by
  have := (esc_all ⟨c.toNat, by omega⟩).1
  rw [show (((⟨c.toNat, by omega⟩ : Fin 256).val : Nat) : Int) = c from Int.toNat_of_nonneg h0, h] at this
  exact this
/-- The rune part. -/
def runeB (n : Int) : List Int × Int := if isRn n = true then (Lib.encodeRuneZ n, 0) else ([], 20)
def want (c : Int) : Nat := if c = 85 then 8 else 4
def spell (s : ByteArray) : List Int × ByteArray × Bool :=
  if s.size = 0 then ([], ⟨#[]⟩, false)
  else if escH (bt s 0) = true then ([escV (bt s 0)], s.extract 1 s.size, true)
  else if bt s 0 = 120 ∨ bt s 0 = 88 then
    ([(digs 16 2 (bytesOf (s.extract 1 s.size)) 0).1 % 256], (s.extract 1 s.size).extract (digs 16 2 (bytesOf (s.extract 1 s.size)) 0).2 (s.extract 1 s.size).size, decide (0 < (digs 16 2 (bytesOf (s.extract 1 s.size)) 0).2))
  else if bt s 0 = 117 ∨ bt s 0 = 85 then
    ((runeB (digs 16 (want (bt s 0)) (bytesOf (s.extract 1 s.size)) 0).1).1, (s.extract 1 s.size).extract (digs 16 (want (bt s 0)) (bytesOf (s.extract 1 s.size)) 0).2 (s.extract 1 s.size).size,
      decide ((digs 16 (want (bt s 0)) (bytesOf (s.extract 1 s.size)) 0).2 = want (bt s 0)) && decide ((runeB (digs 16 (want (bt s 0)) (bytesOf (s.extract 1 s.size)) 0).1).2 = 0))
  else ([(digs 8 3 (bytesOf s) 0).1 % 256], s.extract (digs 8 3 (bytesOf s) 0).2 s.size, decide (0 < (digs 8 3 (bytesOf s) 0).2) && decide ((digs 8 3 (bytesOf s) 0).1 ≤ 255))
def text_spelt.f (s : ByteArray) : Option (List Int × ByteArray × Bool) := if s.size ≤ 281474976710656 then some (spell s) else none
theorem row1 (W : World) (base : Nat) (x : Int) (h : base ≤ W.heap.size) : Kd.R (Kd.int .u8) 5 (W.alloc (.cells #[.int .u8 x] 5)) base (fun _ => True) (.slice (some ⟨W.heap.size, 0, none⟩) 1 1) [x] := by
  refine Kd.R_of_own (enc := Value.int .u8) (h1 := fun _ => rfl) ?_ (fun _ _ => trivial)
  have h2 := World.ownsRow_lit (base := base) (e := 5) (size := 1) W #[.int .u8 x] 1 (by omega) (by decide) (by rfl)
  exact h2
theorem digs_range {m : Nat} {l : List Int} (hm : m ≤ 8) : 0 ≤ (digs 16 m l 0).1 ∧ (digs 16 m l 0).1 < 4294967296 := by
  have hle := digs_le 16 m l 0
  rw [digs_val]
  obtain ⟨i1, i2⟩ := pv_range (base := 16) (by omega) (l.take (digs 16 m l 0).2) 0 (by omega) (by
    intro c hc
    obtain ⟨j, hj, rfl⟩ := List.getElem_of_mem hc
    rw [List.length_take] at hj
    have := digs_in 16 m l 0 j (by omega)
    rw [List.getD_eq_getElem?_getD, List.getElem?_eq_getElem (by omega)] at this
    simpa using this)
  have hl : (l.take (digs 16 m l 0).2).length = 0 ∨ (l.take (digs 16 m l 0).2).length = 1 ∨ (l.take (digs 16 m l 0).2).length = 2 ∨ (l.take (digs 16 m l 0).2).length = 3 ∨ (l.take (digs 16 m l 0).2).length = 4 ∨ (l.take (digs 16 m l 0).2).length = 5 ∨ (l.take (digs 16 m l 0).2).length = 6 ∨ (l.take (digs 16 m l 0).2).length = 7 ∨ (l.take (digs 16 m l 0).2).length = 8 := by
    rw [List.length_take]
    omega
  refine ⟨by simpa using i1, Int.lt_of_lt_of_le i2 ?_⟩
  rcases hl with h | h | h | h | h | h | h | h | h <;> rw [h] <;> decide
theorem rune_row (n : Int) (W : World) : Calls Tryd.prog 15 #[.slice none 0 0, .int .i64 n] W fun e w' => ∃ v0_ : Value, e = .returned (.tuple #[v0_, .int .i64 (runeB n).2]) ∧ Kd.R (Kd.int .u8) 5 w' W.heap.size (fun _ => True) v0_ (runeB n).1 ∧ Below W.heap.size W w' := by
  refine text_Rune.calls none 0 [] n (runeB n).1 (runeB n).2 W (Kd.C_nil _ _) (by simp) ?_
  unfold text_Rune.f runeB
  split
  · simp
  · simp
set_option maxRecDepth 100000 in
set_option maxHeartbeats 8000000 in
theorem spelt_walk (s : ByteArray) (w : World) (hs : s.size ≤ 281474976710656) (HT_ : Tabs w) :
    Calls Tryd.prog 51 #[.string s] w fun e w' => ∃ v0_ : Value, e = .returned (.tuple #[v0_, .string (spell s).2.1, .bool (spell s).2.2]) ∧ Kd.R (Kd.int .u8) 5 w' w.heap.size (fun _ => True) v0_ (spell s).1 ∧ Below w.heap.size w w' := by
  have hmm := @run_makeMap Tryd.prog
  have hown : (w.alloc (.map #[] 0)).ownsMap Tryd.prog 5 (plainElem (H := Unit) Tryd.prog 5) w.heap.size 0 (.map []) := World.ownsMap_made _ _ _ _
  have hB : Below w.heap.size w (w.alloc (.map #[] 0)) := (Below.refl _ _).alloc (Nat.le_refl _) _
  obtain ⟨R, hR⟩ : ∃ R, spell s = R := ⟨_, rfl⟩
  rw [hR]
  unfold spell at hR
  have hc := bt_range s 0
  have hbB : ∀ {W1 W2 : World}, Below w.heap.size w W1 → Below W1.heap.size W1 W2 → Below w.heap.size w W2 := fun h1 h2 => h1.trans (h2.mono h1.size)
  by_cases h0 : s.size = 0
  · rw [if_pos h0] at hR
    subst hR
    have e0 : s.toList = ([] : List UInt8) := by
      rw [ByteArray.toList_eq]
      exact List.eq_nil_of_length_eq_zero (by rw [data_length]; exact h0)
    have e1 : (s.toList == ([] : List UInt8)) = true := beq_iff_eq.mpr e0
    have e2 : (s.toList != ([] : List UInt8)) = false := bne_eq_false_iff_eq.mpr e0
    clear e0
    go_enter Tryd.func51, Tryd.ntmps51
    go_wp2_with (first | ((with_reducible refine gate_insert rfl ?_); refine wpList_insert_own _ rfl _ _ _ 67 rfl 5 5 law5 Tryd.underlying67 _ _ _ _ rfl hown (by unfold maxLen; omega) _ _ _ rfl rfl (keyOf_int_mk Tryd.underlying5 (by decide)) _ [] (plainElem_int Tryd.underlying5 (by decide)) ?_; intro w1 hown1 hgrow1; have n1 := hB.grown hgrow1 hB.size (fun j hj => by cases hj; exact Nat.le_refl _); clear hgrow1; clear hown hB; have hown := hown1; have hB := n1; clear hown1 n1))
    go_ret3
    exact ⟨_, rfl, Kd.R_nil _ _ _ _ _, hB⟩
  rw [if_neg h0] at hR
  have hp : 0 < s.size := by omega
  have e0 : s.toList ≠ ([] : List UInt8) := toList_ne (by omega)
  have e1 : (s.toList == ([] : List UInt8)) = false := beq_eq_false_iff_ne.mpr e0
  have e2 : (s.toList != ([] : List UInt8)) = true := bne_iff_ne.mpr e0
  have hp1 : 1 ≤ s.size := by omega
  clear e0 h0
  obtain ⟨c, hcd⟩ : ∃ c, bt s 0 = c := ⟨_, rfl⟩
  have hat : ∀ h, ((s[0]'h).toNat : Int) = c := fun h => by rw [← hcd]; exact bt_at s 0 h
  obtain ⟨b0, b1⟩ := hc
  rw [hcd] at hR b0 b1
  clear hcd
  have hwf : (Lit.int .u8 c).wf = true := by show (decide (0 ≤ c) && decide (c ≤ 255)) = true; simp [b0, b1]
  have hhas := esc_has b0 b1
  obtain ⟨u, hu⟩ : ∃ u, s.extract 1 s.size = u := ⟨_, rfl⟩
  simp only [hu] at hR
  have hus : u.size + 1 = s.size := by rw [← hu, ByteArray.size_extract]; omega
  by_cases his : escH c = true
  · rw [if_pos his] at hR
    subst hR
    rw [his] at hhas
    go_enter Tryd.func51, Tryd.ntmps51
    go_upto_region 4 with (first | ((with_reducible refine gate_insert rfl ?_); refine wpList_insert_own _ rfl _ _ _ 67 rfl 5 5 law5 Tryd.underlying67 _ _ _ _ rfl hown (by unfold maxLen; omega) _ _ _ rfl rfl (keyOf_int_mk Tryd.underlying5 (by decide)) _ [] (plainElem_int Tryd.underlying5 (by decide)) ?_; intro w1 hown1 hgrow1; have n1 := hB.grown hgrow1 hB.size (fun j hj => by cases hj; exact Nat.le_refl _); clear hgrow1; clear hown hB; have hown := hown1; have hB := n1; clear hown1 n1))
    have hmap : w1.ownsMap Tryd.prog 5 (plainElem (H := Unit) Tryd.prog 5) w.heap.size 11 escD := hown
    clear hown
    go_wp2_with (first | (at_lookup; refine wpList_lookup_own_ok_int _ rfl _ _ 67 rfl 5 5 .u8 law5 Tryd.underlying67 Tryd.underlying5 (zero5 _) _ _ _ rfl hmap _ _ rfl (keyOf_int_mk Tryd.underlying5 hwf) ?_; intro c' hat hwc))
    obtain rfl := esc_val b0 b1 hat
    go_region_with (fail)
    all_goals
      go_simp
      go_wp2
      go_ret3
      exact ⟨_, rfl, Kd.R_drew (row1 w1 w.heap.size (escV c) hB.size), (hB.alloc hB.size _).drew⟩
  rw [if_neg his] at hR
  have his' : escH c = false := by simpa using his
  rw [his'] at hhas
  have hn0 := his'
  simp only [escH, Bool.or_eq_false_iff, decide_eq_false_iff_not] at hn0
  by_cases hx : c = 120 ∨ c = 88
  · rw [if_pos hx] at hR
    obtain ⟨d, hd⟩ : ∃ d, digs 16 2 (bytesOf u) 0 = d := ⟨_, rfl⟩
    have HD : ∀ W, Below w.heap.size w W → Calls Tryd.prog 58 #[.string u, .int .i64 16, .int .i64 2] W fun e w' => e = .returned (.tuple #[.int .u64 d.1, .int .i64 (d.2 : Nat), .string (u.extract d.2 u.size)]) ∧ Below W.heap.size W w' := by
      intro W hW
      rw [← hd]
      exact digits_calls u 16 2 W (Or.inr rfl) (by omega) (by omega) (HT_.below hW)
    rw [hd] at hR
    subst hR
    clear his hd
    rcases hx with rfl | rfl
    all_goals
      go_enter Tryd.func51, Tryd.ntmps51
      go_upto_region 4 with (first | ((with_reducible refine gate_insert rfl ?_); refine wpList_insert_own _ rfl _ _ _ 67 rfl 5 5 law5 Tryd.underlying67 _ _ _ _ rfl hown (by unfold maxLen; omega) _ _ _ rfl rfl (keyOf_int_mk Tryd.underlying5 (by decide)) _ [] (plainElem_int Tryd.underlying5 (by decide)) ?_; intro w1 hown1 hgrow1; have n1 := hB.grown hgrow1 hB.size (fun j hj => by cases hj; exact Nat.le_refl _); clear hgrow1; clear hown hB; have hown := hown1; have hB := n1; clear hown1 n1))
      have hmap : w1.ownsMap Tryd.prog 5 (plainElem (H := Unit) Tryd.prog 5) w.heap.size 11 escD := hown
      clear hown
      go_wp2_with (first | (at_lookup; refine wpList_lookup_own_ok_int _ rfl _ _ 67 rfl 5 5 .u8 law5 Tryd.underlying67 Tryd.underlying5 (zero5 _) _ _ _ rfl hmap _ _ rfl (keyOf_int_mk Tryd.underlying5 hwf) ?_; intro c' hat' hwc) | (go_at_call 58; (with_reducible refine (HD _ hB).mono ?_); rintro e w2 ⟨rfl, hb2⟩; have hB2 := hB.trans (hb2.mono hB.size)))
      go_ret3
      exact ⟨_, rfl, row1 w2 w.heap.size _ hB2.size, hB2.alloc hB2.size _⟩
  rw [if_neg hx] at hR
  by_cases hu : c = 117 ∨ c = 85
  · rw [if_pos hu] at hR
    obtain ⟨d, hd⟩ : ∃ d, digs 16 (want c) (bytesOf u) 0 = d := ⟨_, rfl⟩
    have HD : ∀ W, Below w.heap.size w W → Calls Tryd.prog 58 #[.string u, .int .i64 16, .int .i64 (want c : Nat)] W fun e w' => e = .returned (.tuple #[.int .u64 d.1, .int .i64 (d.2 : Nat), .string (u.extract d.2 u.size)]) ∧ Below W.heap.size W w' := by
      intro W hW
      rw [← hd]
      exact digits_calls u 16 (want c) W (Or.inr rfl) (by unfold want; split <;> omega) (by omega) (HT_.below hW)
    have hdr : 0 ≤ d.1 ∧ d.1 < 4294967296 := by
      rw [← hd]
      exact digs_range (by unfold want; split <;> omega)
    obtain ⟨d0, d1⟩ := hdr
    rw [hd] at hR
    subst hR
    clear his hd
    obtain ⟨rr, hrr⟩ : ∃ rr, runeB d.1 = rr := ⟨_, rfl⟩
    have HRU : ∀ W, Calls Tryd.prog 15 #[.slice none 0 0, .int .i64 d.1] W fun e w' => ∃ v0_ : Value, e = .returned (.tuple #[v0_, .int .i64 rr.2]) ∧ Kd.R (Kd.int .u8) 5 w' W.heap.size (fun _ => True) v0_ rr.1 ∧ Below W.heap.size W w' := by
      intro W
      rw [← hrr]
      exact rune_row d.1 W
    rw [hrr]
    clear hrr
    have hw64 : IntKind.i64.wrap d.1 = d.1 := by simp [IntKind.wrap, IntKind.bits, IntKind.signed]; omega
    rcases hu with rfl | rfl
    · have HD4 : ∀ W, Below w.heap.size w W → Calls Tryd.prog 58 #[.string u, .int .i64 16, .int .i64 4] W fun e w' => e = .returned (.tuple #[.int .u64 d.1, .int .i64 (d.2 : Nat), .string (u.extract d.2 u.size)]) ∧ Below W.heap.size W w' := HD
      rw [show want 117 = 4 from rfl]
      clear HD
      go_enter Tryd.func51, Tryd.ntmps51
      go_upto_region 4 with (first | ((with_reducible refine gate_insert rfl ?_); refine wpList_insert_own _ rfl _ _ _ 67 rfl 5 5 law5 Tryd.underlying67 _ _ _ _ rfl hown (by unfold maxLen; omega) _ _ _ rfl rfl (keyOf_int_mk Tryd.underlying5 (by decide)) _ [] (plainElem_int Tryd.underlying5 (by decide)) ?_; intro w1 hown1 hgrow1; have n1 := hB.grown hgrow1 hB.size (fun j hj => by cases hj; exact Nat.le_refl _); clear hgrow1; clear hown hB; have hown := hown1; have hB := n1; clear hown1 n1))
      have hmap : w1.ownsMap Tryd.prog 5 (plainElem (H := Unit) Tryd.prog 5) w.heap.size 11 escD := hown
      clear hown
      go_wp2_with (first | (at_lookup; refine wpList_lookup_own_ok_int _ rfl _ _ 67 rfl 5 5 .u8 law5 Tryd.underlying67 Tryd.underlying5 (zero5 _) _ _ _ rfl hmap _ _ rfl (keyOf_int_mk Tryd.underlying5 hwf) ?_; intro c' hat' hwc) | (go_at_call 58; (with_reducible refine (HD4 _ hB).mono ?_); rintro e w2 ⟨rfl, hb2⟩; have hB2 := hB.trans (hb2.mono hB.size)) | (go_at_call 15; (with_reducible refine (HRU _).mono ?_); rintro e w3 ⟨vr, rfl, hrow, hb3⟩))
      all_goals
        go_ret3
        refine ⟨_, ?_, Kd.R_of_own (enc := Value.int .u8) (h1 := fun _ => rfl) (own_weaken (Kd.own_of_R hrow) hB2.size) (fun _ _ => trivial), hB2.trans (hb3.mono hB2.size)⟩
        refine congrArg (fun b => Ending.returned (.tuple #[vr, .string (u.extract d.2 u.size), .bool b])) ?_
        rw [Bool.eq_iff_iff]
        simp only [beq_iff_eq, Bool.and_eq_true, decide_eq_true_eq, Bool.false_eq_true, false_iff, not_and]
        first | omega | (intro _; omega)
    · have HD8 : ∀ W, Below w.heap.size w W → Calls Tryd.prog 58 #[.string u, .int .i64 16, .int .i64 8] W fun e w' => e = .returned (.tuple #[.int .u64 d.1, .int .i64 (d.2 : Nat), .string (u.extract d.2 u.size)]) ∧ Below W.heap.size W w' := HD
      rw [show want 85 = 8 from rfl]
      clear HD
      go_enter Tryd.func51, Tryd.ntmps51
      go_upto_region 4 with (first | ((with_reducible refine gate_insert rfl ?_); refine wpList_insert_own _ rfl _ _ _ 67 rfl 5 5 law5 Tryd.underlying67 _ _ _ _ rfl hown (by unfold maxLen; omega) _ _ _ rfl rfl (keyOf_int_mk Tryd.underlying5 (by decide)) _ [] (plainElem_int Tryd.underlying5 (by decide)) ?_; intro w1 hown1 hgrow1; have n1 := hB.grown hgrow1 hB.size (fun j hj => by cases hj; exact Nat.le_refl _); clear hgrow1; clear hown hB; have hown := hown1; have hB := n1; clear hown1 n1))
      have hmap : w1.ownsMap Tryd.prog 5 (plainElem (H := Unit) Tryd.prog 5) w.heap.size 11 escD := hown
      clear hown
      go_wp2_with (first | (at_lookup; refine wpList_lookup_own_ok_int _ rfl _ _ 67 rfl 5 5 .u8 law5 Tryd.underlying67 Tryd.underlying5 (zero5 _) _ _ _ rfl hmap _ _ rfl (keyOf_int_mk Tryd.underlying5 hwf) ?_; intro c' hat' hwc) | (go_at_call 58; (with_reducible refine (HD8 _ hB).mono ?_); rintro e w2 ⟨rfl, hb2⟩; have hB2 := hB.trans (hb2.mono hB.size)) | (go_at_call 15; (with_reducible refine (HRU _).mono ?_); rintro e w3 ⟨vr, rfl, hrow, hb3⟩))
      all_goals
        go_ret3
        refine ⟨_, ?_, Kd.R_of_own (enc := Value.int .u8) (h1 := fun _ => rfl) (own_weaken (Kd.own_of_R hrow) hB2.size) (fun _ _ => trivial), hB2.trans (hb3.mono hB2.size)⟩
        refine congrArg (fun b => Ending.returned (.tuple #[vr, .string (u.extract d.2 u.size), .bool b])) ?_
        rw [Bool.eq_iff_iff]
        simp only [beq_iff_eq, Bool.and_eq_true, decide_eq_true_eq, Bool.false_eq_true, false_iff, not_and]
        first | omega | (intro _; omega)
  rw [if_neg hu] at hR
  obtain ⟨d, hd⟩ : ∃ d, digs 8 3 (bytesOf s) 0 = d := ⟨_, rfl⟩
  have HD : ∀ W, Below w.heap.size w W → Calls Tryd.prog 58 #[.string s, .int .i64 8, .int .i64 3] W fun e w' => e = .returned (.tuple #[.int .u64 d.1, .int .i64 (d.2 : Nat), .string (s.extract d.2 s.size)]) ∧ Below W.heap.size W w' := by
    intro W hW
    rw [← hd]
    exact digits_calls s 8 3 W (Or.inl rfl) (by omega) (by omega) (HT_.below hW)
  rw [hd] at hR
  subst hR
  clear his hd
  have k1 : ¬ c = 120 := fun e => hx (Or.inl e)
  have k2 : ¬ c = 88 := fun e => hx (Or.inr e)
  have k3 : ¬ c = 117 := fun e => hu (Or.inl e)
  have k4 : ¬ c = 85 := fun e => hu (Or.inr e)
  go_enter Tryd.func51, Tryd.ntmps51
  go_upto_region 4 with (first | ((with_reducible refine gate_insert rfl ?_); refine wpList_insert_own _ rfl _ _ _ 67 rfl 5 5 law5 Tryd.underlying67 _ _ _ _ rfl hown (by unfold maxLen; omega) _ _ _ rfl rfl (keyOf_int_mk Tryd.underlying5 (by decide)) _ [] (plainElem_int Tryd.underlying5 (by decide)) ?_; intro w1 hown1 hgrow1; have n1 := hB.grown hgrow1 hB.size (fun j hj => by cases hj; exact Nat.le_refl _); clear hgrow1; clear hown hB; have hown := hown1; have hB := n1; clear hown1 n1))
  have hmap : w1.ownsMap Tryd.prog 5 (plainElem (H := Unit) Tryd.prog 5) w.heap.size 11 escD := hown
  clear hown
  go_wp2_with (first | (at_lookup; refine wpList_lookup_own_ok_int _ rfl _ _ 67 rfl 5 5 .u8 law5 Tryd.underlying67 Tryd.underlying5 (zero5 _) _ _ _ rfl hmap _ _ rfl (keyOf_int_mk Tryd.underlying5 hwf) ?_; intro c' hat' hwc) | (go_at_call 58; (with_reducible refine (HD _ hB).mono ?_); rintro e w2 ⟨rfl, hb2⟩; have hB2 := hB.trans (hb2.mono hB.size)))
  all_goals
    go_ret3
    refine ⟨_, ?_, row1 w2 w.heap.size _ hB2.size, hB2.alloc hB2.size _⟩
    refine congrArg (fun b => Ending.returned (.tuple #[_, .string (s.extract d.2 s.size), .bool b])) ?_
    rw [Bool.eq_iff_iff]
    simp only [beq_iff_eq, Bool.and_eq_true, decide_eq_true_eq, Bool.false_eq_true, false_iff, not_and]
    first | omega | (intro _; omega)
theorem text_spelt.calls (s : ByteArray) (r1 : List Int) (r2 : ByteArray) (r3 : Bool) (w : World) (h : text_spelt.f s = some (r1, r2, r3)) (HT_ : Tabs w) :
    Calls Tryd.prog 51 #[.string s] w fun e w' => ∃ v0_ : Value, e = .returned (.tuple #[v0_, .string r2, .bool r3]) ∧ Kd.R (Kd.int .u8) 5 w' w.heap.size (fun _ => True) v0_ r1 ∧ Below w.heap.size w w' := by
  unfold text_spelt.f at h
  split at h
  · rename_i hs
    have hR := Option.some.inj h
    have := spelt_walk s w hs HT_
    rw [hR] at this
    exact this
  · cases h
end Go.Proofs.YtaklkcnohbbfoaaDoor.Hand
