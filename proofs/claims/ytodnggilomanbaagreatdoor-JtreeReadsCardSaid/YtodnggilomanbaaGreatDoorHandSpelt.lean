/-
  jtree.spelt: the walk.
-/
import Derived.Test.YtodnggilomanbaaGreatDoorAp
import Derived.Test.YtodnggilomanbaaGreatDoorHandHalf
import Derived.Test.YtodnggilomanbaaGreatDoorHandRune
import Derived.Test.YtodnggilomanbaaGreatDoorHandAa
import Derived.Lib.ValidAsc
set_option maxRecDepth 100000
set_option maxHeartbeats 8000000
namespace Go.Proofs.YtodnggilomanbaaGreatDoor.Hand
open Go.RowKit Go.Lib Go.Maps Go.Proofs.YtodnggilomanbaaGreatDoorW.PrintWords Go.Proofs.YtodnggilomanbaaGreatDoorW.PrintLast Go.Proofs.YtodnggilomanbaaGreatDoorW.PrintMore Go.Proofs.YtodnggilomanbaaGreatDoor.PAll
set_option linter.unusedVariables false
set_option linter.unusedSimpArgs false

def escD : DataW Unit := lay [(34, 34), (92, 92), (47, 47), (98, 8), (102, 12), (110, 10), (114, 13), (116, 9)] (.map [])
def escV (c : Int) : Int := if c = 34 then 34 else if c = 92 then 92 else if c = 47 then 47 else if c = 98 then 8 else if c = 102 then 12 else if c = 110 then 10 else if c = 114 then 13 else if c = 116 then 9 else 0
def escH (c : Int) : Bool := decide (c = 34) || decide (c = 92) || decide (c = 47) || decide (c = 98) || decide (c = 102) || decide (c = 110) || decide (c = 114) || decide (c = 116)
theorem esc_all : ∀ c : Fin 256, num? (escD.atKey (.int .u8 (c.val : Int)) (.lit (.int .u8 0))) = escV (c.val : Int) ∧ Maps.has escD (.int .u8 (c.val : Int)) = escH (c.val : Int) := by decide +kernel
theorem esc_has {c : Int} (h0 : 0 ≤ c) (h1 : c ≤ 255) : Maps.has escD (.int .u8 c) = escH c := by
  have := (esc_all ⟨c.toNat, by omega⟩).2
  rwa [show (((⟨c.toNat, by omega⟩ : Fin 256).val : Nat) : Int) = c from Int.toNat_of_nonneg h0] at this
theorem esc_val {c x : Int} (h0 : 0 ≤ c) (h1 : c ≤ 255) (h : escD.atKey (.int .u8 c) (.lit (.int .u8 0)) = .lit (.int .u8 x)) : x = escV c := by
  have := (esc_all ⟨c.toNat, by omega⟩).1
  rw [show (((⟨c.toNat, by omega⟩ : Fin 256).val : Nat) : Int) = c from Int.toNat_of_nonneg h0, h] at this
  exact this
/-- The rune part. -/
def runeB (n : Int) : List Int × Int := if isRn n = true then (Lib.encodeRuneZ n, 0) else ([], 20)
/-- Whether a text begins with `\u`. -/
def isU (s : ByteArray) : Bool := Lib.hasPrefix s.data.toList [92, 117]
/-- What is spelt behind `\u`: its number, and what stands behind. -/
def pairF (s : ByteArray) (n : Int) : Int × ByteArray :=
  if isU s = true ∧ 55296 ≤ n ∧ n < 56320 ∧ 56320 ≤ halfF (s.extract 2 s.size) ∧ halfF (s.extract 2 s.size) ≤ 57343 then
    (65536 + (n - 55296) * 1024 + halfF (s.extract 2 s.size) - 56320, s.extract 6 s.size)
  else (n, s)
def spell (s : ByteArray) : List Int × ByteArray × Bool :=
  if escH (bt s 0) = true then ([escV (bt s 0)], s.extract 1 s.size, true)
  else if bt s 0 = 117 ∧ 0 ≤ halfF (s.extract 1 s.size) then
    ((runeB (pairF (s.extract 5 s.size) (halfF (s.extract 1 s.size))).1).1, (pairF (s.extract 5 s.size) (halfF (s.extract 1 s.size))).2, decide ((runeB (pairF (s.extract 5 s.size) (halfF (s.extract 1 s.size))).1).2 = 0))
  else ([], ⟨#[]⟩, false)
theorem row1 (W : World) (base : Nat) (x : Int) (h : base ≤ W.heap.size) : Kd.R (Kd.int .u8) 5 (W.alloc (.cells #[.int .u8 x] 5)) base (fun _ => True) (.slice (some ⟨W.heap.size, 0, none⟩) 1 1) [x] := by
  refine Kd.R_of_own (enc := Value.int .u8) (h1 := fun _ => rfl) ?_ (fun _ _ => trivial)
  have h2 := World.ownsRow_lit (base := base) (e := 5) (size := 1) W #[.int .u8 x] 1 (by omega) (by decide) (by rfl)
  exact h2
theorem rune_row (n : Int) (W : World) : Calls Tryz.prog 116 #[.slice none 0 0, .int .i64 n] W fun e w' => ∃ v0_ : Value, e = .returned (.tuple #[v0_, .int .i64 (runeB n).2]) ∧ Kd.R (Kd.int .u8) 5 w' W.heap.size (fun _ => True) v0_ (runeB n).1 ∧ Below W.heap.size W w' := by
 refine text_Rune.calls none 0 [] n (runeB n).1 (runeB n).2 W (Kd.C_nil _ _) (by simp) ?_
 unfold text_Rune.f runeB
 split
 ·simp
 ·simp
theorem half_rng (s : ByteArray) : -1 ≤ halfF s ∧ halfF s < 65536 ∧ (0 ≤ halfF s → 4 ≤ s.size) := by
 unfold halfF
 split
 ·omega
 ·unfold hv4
  split
  ·rename_i h1 h2
   have h3 : ∀ c ∈ ((bytesOf s).take 4).map lowc, isHx c = true := by
    intro c hc
    obtain ⟨d, hd, rfl⟩ := List.mem_map.1 hc
    exact List.all_eq_true.1 h2 d hd
   obtain ⟨h4, h5⟩ := hfold_bd _ h3
   have h6 := pow4 (n := (((bytesOf s).take 4).map lowc).length) (by rw [List.length_map, List.length_take]; omega)
   omega
  ·omega
/-- CutPrefix's answer, of what begins with `\u`. -/
theorem cut_u (s : ByteArray) (W : World) : Calls Tryz.prog 115 #[.string s, .string ⟨#[92, 117]⟩] W fun e w' => e = .returned (.tuple #[.string (if isU s = true then s.extract 2 s.size else s), .bool (isU s)]) ∧ w' = W := by
 have := Tryz.strings_CutPrefix s ⟨#[92, 117]⟩ W
 have e2 : (⟨(Lib.trimPrefix s.data.toList [92, 117]).toArray⟩ : ByteArray) = if isU s = true then s.extract 2 s.size else s := by
  unfold Lib.trimPrefix isU
  split
  ·refine ByteArray.ext (Array.toList_inj.1 ?_)
   rw [Lib.ext_list]
   rfl
  ·rfl
 rw [show (⟨#[92, 117]⟩ : ByteArray).data.toList = [92, 117] from rfl, e2] at this
 exact this
theorem spelt_walk (s : ByteArray) (w : World) (h1 : 1 ≤ s.size) (hs : s.size ≤ 1099511627776) (HT_ : Tabs w) :
 Calls Tryz.prog 102 #[.string s] w fun e w' => ∃ v0_ : Value, e = .returned (.tuple #[v0_, .string (spell s).2.1, .bool (spell s).2.2]) ∧ Kd.R (Kd.int .u8) 5 w' w.heap.size (fun _ => True) v0_ (spell s).1 ∧ Below w.heap.size w w' := by
 have hmm := @run_makeMap Tryz.prog
 have hown : (w.alloc (.map #[] 0)).ownsMap Tryz.prog 5 (plainElem (H := Unit) Tryz.prog 5) w.heap.size 0 (.map []) := World.ownsMap_made _ _ _ _
 have hB : Below w.heap.size w (w.alloc (.map #[] 0)) := (Below.refl _ _).alloc (Nat.le_refl _) _
 obtain ⟨R, hR⟩ : ∃ R, spell s = R := ⟨_, rfl⟩
 rw [hR]
 unfold spell at hR
 have hc := bt_range s 0
 have hp : 0 < s.size := by omega
 obtain ⟨c, hcd⟩ : ∃ c, bt s 0 = c := ⟨_, rfl⟩
 have hat : ∀ h, ((s[0]'h).toNat : Int) = c := fun h => by rw [← hcd]; exact bt_at s 0 h
 obtain ⟨b0, b1⟩ := hc
 rw [hcd] at hR b0 b1
 clear hcd
 have hwf : (Lit.int .u8 c).wf = true := by show (decide (0 ≤ c) && decide (c ≤ 255)) = true; simp [b0, b1]
 have hhas := esc_has b0 b1
 obtain ⟨u, hu⟩ : ∃ u, s.extract 1 s.size = u := ⟨_, rfl⟩
 simp only [hu] at hR
 have hus : u.size + 1 = s.size := by rw [← hu, ByteArray.size_extract]; omega
 by_cases his : escH c = true
 ·rw [if_pos his] at hR
  subst hR
  rw [his] at hhas
  go_enter Tryz.func102, Tryz.ntmps102
  go_upto_region 2 with (first | ((with_reducible refine gate_insert rfl ?_); refine wpList_insert_own _ rfl _ _ _ 132 rfl 5 5 law5 Tryz.underlying132 _ _ _ _ rfl hown (by unfold maxLen; omega) _ _ _ rfl rfl (keyOf_int_mk Tryz.underlying5 (by decide)) _ [] (plainElem_int Tryz.underlying5 (by decide)) ?_; intro w1 hown1 hgrow1; have n1 := hB.grown hgrow1 hB.size (fun j hj => p64z); clear hgrow1; clear hown hB; have hown := hown1; have hB := n1; clear hown1 n1))
  have hmap : w1.ownsMap Tryz.prog 5 (plainElem (H := Unit) Tryz.prog 5) w.heap.size 8 escD := hown
  clear hown
  go_wp2_with (first | (at_lookup; refine wpList_lookup_own_ok_int _ rfl _ _ 132 rfl 5 5 .u8 law5 Tryz.underlying132 Tryz.underlying5 (zero5 _) _ _ _ rfl hmap _ _ rfl (keyOf_int_mk Tryz.underlying5 hwf) ?_; intro c' hat' hwc))
  obtain rfl := esc_val b0 b1 hat'
  go_region_with (fail)
  all_goals
   go_simp
   go_wp2
   go_ret3
   exact ⟨_, rfl, Kd.R_drew (row1 w1 w.heap.size (escV c) hB.size), (hB.alloc hB.size _).drew⟩
 rw [if_neg his] at hR
 have his' : escH c = false := by simpa using his
 rw [his'] at hhas
 clear his
 obtain ⟨n, hn⟩ : ∃ n, halfF u = n := ⟨_, rfl⟩
 obtain ⟨n0, n1, n4⟩ := half_rng u
 have HH : ∀ W, Below w.heap.size w W → Calls Tryz.prog 114 #[.string u] W fun e w' => e = .returned (.int .i64 n) ∧ Below W.heap.size W w' := by
  intro W hW
  rw [← hn]
  exact half_calls u W (by omega) (HT_.below hW)
 rw [hn] at hR n0 n1 n4
 clear hn
 by_cases hno : c = 117 ∧ 0 ≤ n
 case neg =>
  rw [if_neg hno] at hR
  subst hR
  have hcn : c ≠ 117 ∨ (c = 117 ∧ n < 0) := by omega
  rcases hcn with hc17 | ⟨rfl, hn0⟩
  ·have hq1 : (c != 117) = true := bne_iff_ne.mpr hc17
   clear hno n4
   go_enter Tryz.func102, Tryz.ntmps102
   go_upto_region 2 with (first | ((with_reducible refine gate_insert rfl ?_); refine wpList_insert_own _ rfl _ _ _ 132 rfl 5 5 law5 Tryz.underlying132 _ _ _ _ rfl hown (by unfold maxLen; omega) _ _ _ rfl rfl (keyOf_int_mk Tryz.underlying5 (by decide)) _ [] (plainElem_int Tryz.underlying5 (by decide)) ?_; intro w1 hown1 hgrow1; have n1 := hB.grown hgrow1 hB.size (fun j hj => p64z); clear hgrow1; clear hown hB; have hown := hown1; have hB := n1; clear hown1 n1))
   have hmap : w1.ownsMap Tryz.prog 5 (plainElem (H := Unit) Tryz.prog 5) w.heap.size 8 escD := hown
   clear hown
   go_wp2_with (first | (at_lookup; refine wpList_lookup_own_ok_int _ rfl _ _ 132 rfl 5 5 .u8 law5 Tryz.underlying132 Tryz.underlying5 (zero5 _) _ _ _ rfl hmap _ _ rfl (keyOf_int_mk Tryz.underlying5 hwf) ?_; intro c' hat' hwc) | (go_at_call 114; (with_reducible refine (HH _ hB).mono ?_); rintro e w2 ⟨rfl, hb2⟩; have hB2 := hB.trans (hb2.mono hB.size)))
   go_ret3
   exact ⟨_, rfl, Kd.R_nil _ _ _ _ _, hB2⟩
  ·clear hno n4
   go_enter Tryz.func102, Tryz.ntmps102
   go_upto_region 2 with (first | ((with_reducible refine gate_insert rfl ?_); refine wpList_insert_own _ rfl _ _ _ 132 rfl 5 5 law5 Tryz.underlying132 _ _ _ _ rfl hown (by unfold maxLen; omega) _ _ _ rfl rfl (keyOf_int_mk Tryz.underlying5 (by decide)) _ [] (plainElem_int Tryz.underlying5 (by decide)) ?_; intro w1 hown1 hgrow1; have n1 := hB.grown hgrow1 hB.size (fun j hj => p64z); clear hgrow1; clear hown hB; have hown := hown1; have hB := n1; clear hown1 n1))
   have hmap : w1.ownsMap Tryz.prog 5 (plainElem (H := Unit) Tryz.prog 5) w.heap.size 8 escD := hown
   clear hown
   go_wp2_with (first | (at_lookup; refine wpList_lookup_own_ok_int _ rfl _ _ 132 rfl 5 5 .u8 law5 Tryz.underlying132 Tryz.underlying5 (zero5 _) _ _ _ rfl hmap _ _ rfl (keyOf_int_mk Tryz.underlying5 hwf) ?_; intro c' hat' hwc) | (go_at_call 114; (with_reducible refine (HH _ hB).mono ?_); rintro e w2 ⟨rfl, hb2⟩; have hB2 := hB.trans (hb2.mono hB.size)))
   go_ret3
   exact ⟨_, rfl, Kd.R_nil _ _ _ _ _, hB2⟩
 rw [if_pos hno] at hR
 obtain ⟨rfl, hn0⟩ := hno
 have n5 := n4 hn0
 clear n4
 have hn00 : ¬ n < 0 := by omega
 have hs5 : 5 ≤ s.size := by omega
 obtain ⟨t, ht⟩ : ∃ t, s.extract 5 s.size = t := ⟨_, rfl⟩
 have hts : t.size + 5 = s.size := by rw [← ht, ByteArray.size_extract]; omega
 rw [ht] at hR
 obtain ⟨pf, hpf⟩ : ∃ pf, pairF t n = pf := ⟨_, rfl⟩
 obtain ⟨rr, hrr⟩ : ∃ rr, runeB pf.1 = rr := ⟨_, rfl⟩
 have HRU : ∀ W, Calls Tryz.prog 116 #[.slice none 0 0, .int .i64 pf.1] W fun e w' => ∃ v0_ : Value, e = .returned (.tuple #[v0_, .int .i64 rr.2]) ∧ Kd.R (Kd.int .u8) 5 w' W.heap.size (fun _ => True) v0_ rr.1 ∧ Below W.heap.size W w' := by
  intro W
  rw [← hrr]
  exact rune_row pf.1 W
 rw [hpf, hrr] at hR
 subst hR
 clear hrr
 unfold pairF at hpf
 have HC := cut_u t
 by_cases hU : isU t = true
 case neg =>
  have hUf : isU t = false := by simpa using hU
  rw [if_neg (by rintro ⟨h, _⟩; exact hU h)] at hpf
  subst hpf
  simp only [hUf, Bool.false_eq_true, if_false] at HC
  clear hU
  go_enter Tryz.func102, Tryz.ntmps102
  go_upto_region 2 with (first | ((with_reducible refine gate_insert rfl ?_); refine wpList_insert_own _ rfl _ _ _ 132 rfl 5 5 law5 Tryz.underlying132 _ _ _ _ rfl hown (by unfold maxLen; omega) _ _ _ rfl rfl (keyOf_int_mk Tryz.underlying5 (by decide)) _ [] (plainElem_int Tryz.underlying5 (by decide)) ?_; intro w1 hown1 hgrow1; have n1 := hB.grown hgrow1 hB.size (fun j hj => p64z); clear hgrow1; clear hown hB; have hown := hown1; have hB := n1; clear hown1 n1))
  have hmap : w1.ownsMap Tryz.prog 5 (plainElem (H := Unit) Tryz.prog 5) w.heap.size 8 escD := hown
  clear hown
  go_wp2_with (first | (at_lookup; refine wpList_lookup_own_ok_int _ rfl _ _ 132 rfl 5 5 .u8 law5 Tryz.underlying132 Tryz.underlying5 (zero5 _) _ _ _ rfl hmap _ _ rfl (keyOf_int_mk Tryz.underlying5 hwf) ?_; intro c' hat' hwc) | (go_at_call 114; (with_reducible refine (HH _ hB).mono ?_); rintro e w2 ⟨rfl, hb2⟩; have hB2 := hB.trans (hb2.mono hB.size)) | (go_at_call 115; (with_reducible refine (HC _).mono ?_); rintro e w4 ⟨rfl, hw4⟩; rw [hw4]) | (go_at_call 116; (with_reducible refine (HRU _).mono ?_); rintro e w3 ⟨vr, rfl, hrow, hb3⟩))
  all_goals
   go_ret3
   refine ⟨_, ?_, Kd.R_of_own (enc := Value.int .u8) (h1 := fun _ => rfl) (own_weaken (Kd.own_of_R hrow) hB2.size) (fun _ _ => trivial), hB2.trans (hb3.mono hB2.size)⟩
   refine congrArg (fun b => Ending.returned (.tuple #[vr, .string _, .bool b])) ?_
   rw [Bool.eq_iff_iff]
   simp only [beq_iff_eq, decide_eq_true_eq]
 obtain ⟨v, hv⟩ : ∃ v, t.extract 2 t.size = v := ⟨_, rfl⟩
 simp only [hU, hv, if_true, true_and] at HC hpf
 by_cases hin : 55296 ≤ n ∧ n < 56320
 case neg =>
  rw [if_neg (by omega)] at hpf
  subst hpf
  have hnn : n < 55296 ∨ (55296 ≤ n ∧ 56320 ≤ n) := by omega
  rcases hnn with hk1 | ⟨hk1, hk2⟩
  all_goals
   go_enter Tryz.func102, Tryz.ntmps102
   go_upto_region 2 with (first | ((with_reducible refine gate_insert rfl ?_); refine wpList_insert_own _ rfl _ _ _ 132 rfl 5 5 law5 Tryz.underlying132 _ _ _ _ rfl hown (by unfold maxLen; omega) _ _ _ rfl rfl (keyOf_int_mk Tryz.underlying5 (by decide)) _ [] (plainElem_int Tryz.underlying5 (by decide)) ?_; intro w1 hown1 hgrow1; have n1 := hB.grown hgrow1 hB.size (fun j hj => p64z); clear hgrow1; clear hown hB; have hown := hown1; have hB := n1; clear hown1 n1))
   have hmap : w1.ownsMap Tryz.prog 5 (plainElem (H := Unit) Tryz.prog 5) w.heap.size 8 escD := hown
   clear hown
   go_wp2_with (first | (at_lookup; refine wpList_lookup_own_ok_int _ rfl _ _ 132 rfl 5 5 .u8 law5 Tryz.underlying132 Tryz.underlying5 (zero5 _) _ _ _ rfl hmap _ _ rfl (keyOf_int_mk Tryz.underlying5 hwf) ?_; intro c' hat' hwc) | (go_at_call 114; (with_reducible refine (HH _ hB).mono ?_); rintro e w2 ⟨rfl, hb2⟩; have hB2 := hB.trans (hb2.mono hB.size)) | (go_at_call 115; (with_reducible refine (HC _).mono ?_); rintro e w4 ⟨rfl, hw4⟩; rw [hw4]) | (go_at_call 116; (with_reducible refine (HRU _).mono ?_); rintro e w3 ⟨vr, rfl, hrow, hb3⟩))
   all_goals
    go_ret3
    refine ⟨_, ?_, Kd.R_of_own (enc := Value.int .u8) (h1 := fun _ => rfl) (own_weaken (Kd.own_of_R hrow) hB2.size) (fun _ _ => trivial), hB2.trans (hb3.mono hB2.size)⟩
    refine congrArg (fun b => Ending.returned (.tuple #[vr, .string _, .bool b])) ?_
    rw [Bool.eq_iff_iff]
    simp only [beq_iff_eq, decide_eq_true_eq]
 obtain ⟨in0, in1⟩ := hin
 obtain ⟨k, hk⟩ : ∃ k, halfF v = k := ⟨_, rfl⟩
 obtain ⟨k0, k1, k4⟩ := half_rng v
 have hvs : v.size ≤ 1099511627776 := by rw [← hv, ByteArray.size_extract]; omega
 have HK : ∀ W, Below w.heap.size w W → Calls Tryz.prog 114 #[.string v] W fun e w' => e = .returned (.int .i64 k) ∧ Below W.heap.size W w' := by
  intro W hW
  rw [← hk]
  exact half_calls v W hvs (HT_.below hW)
 rw [hk] at hpf k0 k1 k4
 clear hk
 by_cases hkin : 56320 ≤ k ∧ k ≤ 57343
 case neg =>
  rw [if_neg (by omega)] at hpf
  subst hpf
  have hkk : k < 56320 ∨ (56320 ≤ k ∧ 57343 < k) := by omega
  rcases hkk with hk1 | ⟨hk1, hk2⟩
  all_goals
   go_enter Tryz.func102, Tryz.ntmps102
   go_upto_region 2 with (first | ((with_reducible refine gate_insert rfl ?_); refine wpList_insert_own _ rfl _ _ _ 132 rfl 5 5 law5 Tryz.underlying132 _ _ _ _ rfl hown (by unfold maxLen; omega) _ _ _ rfl rfl (keyOf_int_mk Tryz.underlying5 (by decide)) _ [] (plainElem_int Tryz.underlying5 (by decide)) ?_; intro w1 hown1 hgrow1; have n1 := hB.grown hgrow1 hB.size (fun j hj => p64z); clear hgrow1; clear hown hB; have hown := hown1; have hB := n1; clear hown1 n1))
   have hmap : w1.ownsMap Tryz.prog 5 (plainElem (H := Unit) Tryz.prog 5) w.heap.size 8 escD := hown
   clear hown
   go_wp2_with (first | (at_lookup; refine wpList_lookup_own_ok_int _ rfl _ _ 132 rfl 5 5 .u8 law5 Tryz.underlying132 Tryz.underlying5 (zero5 _) _ _ _ rfl hmap _ _ rfl (keyOf_int_mk Tryz.underlying5 hwf) ?_; intro c' hat' hwc) | (go_at_call 114; first | ((with_reducible refine (HH _ hB).mono ?_); rintro e w2 ⟨rfl, hb2⟩; have hB2 := hB.trans (hb2.mono hB.size)) | ((with_reducible refine (HK _ hB2).mono ?_); rintro e w5 ⟨rfl, hb5⟩; have hB5 := hB2.trans (hb5.mono hB2.size))) | (go_at_call 115; (with_reducible refine (HC _).mono ?_); rintro e w4 ⟨rfl, hw4⟩; rw [hw4]) | (go_at_call 116; (with_reducible refine (HRU _).mono ?_); rintro e w3 ⟨vr, rfl, hrow, hb3⟩))
   all_goals
    go_ret3
    refine ⟨_, ?_, Kd.R_of_own (enc := Value.int .u8) (h1 := fun _ => rfl) (own_weaken (Kd.own_of_R hrow) hB5.size) (fun _ _ => trivial), hB5.trans (hb3.mono hB5.size)⟩
    refine congrArg (fun b => Ending.returned (.tuple #[vr, .string _, .bool b])) ?_
    rw [Bool.eq_iff_iff]
    simp only [beq_iff_eq, decide_eq_true_eq]
 obtain ⟨ki0, ki1⟩ := hkin
 rw [if_pos ⟨in0, in1, ki0, ki1⟩] at hpf
 have k5 := k4 (by omega)
 clear k4
 subst hpf
 have hv4 : v.extract 4 v.size = t.extract 6 t.size := by
  refine ByteArray.ext (Array.toList_inj.1 ?_)
  rw [Lib.ext_list, ← hv, Lib.ext_list, Lib.ext_list, List.drop_drop]
 have hw1 : wrap64 (65536 + wrap64 (wrap64 (n - 55296) * 1024)) = 65536 + (n - 55296) * 1024 := p63z
 have hw2 : wrap64 (65536 + (n - 55296) * 1024 + k) = 65536 + (n - 55296) * 1024 + k := p63z
 have hw3 : wrap64 (65536 + (n - 55296) * 1024 + k - 56320) = 65536 + (n - 55296) * 1024 + k - 56320 := p63z
 go_enter Tryz.func102, Tryz.ntmps102
 go_upto_region 2 with (first | ((with_reducible refine gate_insert rfl ?_); refine wpList_insert_own _ rfl _ _ _ 132 rfl 5 5 law5 Tryz.underlying132 _ _ _ _ rfl hown (by unfold maxLen; omega) _ _ _ rfl rfl (keyOf_int_mk Tryz.underlying5 (by decide)) _ [] (plainElem_int Tryz.underlying5 (by decide)) ?_; intro w1 hown1 hgrow1; have n1 := hB.grown hgrow1 hB.size (fun j hj => p64z); clear hgrow1; clear hown hB; have hown := hown1; have hB := n1; clear hown1 n1))
 have hmap : w1.ownsMap Tryz.prog 5 (plainElem (H := Unit) Tryz.prog 5) w.heap.size 8 escD := hown
 clear hown
 go_wp2_with (first | (at_lookup; refine wpList_lookup_own_ok_int _ rfl _ _ 132 rfl 5 5 .u8 law5 Tryz.underlying132 Tryz.underlying5 (zero5 _) _ _ _ rfl hmap _ _ rfl (keyOf_int_mk Tryz.underlying5 hwf) ?_; intro c' hat' hwc) | (go_at_call 114; first | ((with_reducible refine (HH _ hB).mono ?_); rintro e w2 ⟨rfl, hb2⟩; have hB2 := hB.trans (hb2.mono hB.size)) | ((with_reducible refine (HK _ hB2).mono ?_); rintro e w5 ⟨rfl, hb5⟩; have hB5 := hB2.trans (hb5.mono hB2.size))) | (go_at_call 115; (with_reducible refine (HC _).mono ?_); rintro e w4 ⟨rfl, hw4⟩; rw [hw4]) | (go_at_call 116; (with_reducible refine (HRU _).mono ?_); rintro e w3 ⟨vr, rfl, hrow, hb3⟩))
 go_region_with (fail)
 all_goals
  go_simp
  have hB6 := hB5.drew
  go_wp2_with ((go_at_call 116; (with_reducible refine (HRU _).mono ?_); rintro e w3 ⟨vr, rfl, hrow, hb3⟩))
  go_ret3
  refine ⟨_, ?_, Kd.R_of_own (enc := Value.int .u8) (h1 := fun _ => rfl) (own_weaken (Kd.own_of_R hrow) hB6.size) (fun _ _ => trivial), hB6.trans (hb3.mono hB6.size)⟩
  refine congrArg (fun b => Ending.returned (.tuple #[vr, .string (t.extract 6 t.size), .bool b])) ?_
  rw [Bool.eq_iff_iff]
  simp only [beq_iff_eq, decide_eq_true_eq]
end Go.Proofs.YtodnggilomanbaaGreatDoor.Hand
