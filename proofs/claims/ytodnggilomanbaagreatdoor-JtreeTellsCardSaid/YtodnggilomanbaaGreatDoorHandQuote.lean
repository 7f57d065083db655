/-
  jtree: quoted: what it comes to, and the walk.
-/
import Derived.Test.YtodnggilomanbaaGreatDoorAp
import Derived.Test.YtodnggilomanbaaGreatDoorHandStep
import Derived.Test.YtodnggilomanbaaGreatDoorHandHz
import Derived.Test.YtodnggilomanbaaGreatDoorHandBa
set_option maxRecDepth 100000
set_option maxHeartbeats 8000000
namespace Go.Proofs.YtodnggilomanbaaGreatDoor.Hand
open Go.RowKit Go.Lib Go.Maps Go.Proofs.YtodnggilomanbaaGreatDoorW.PrintWords Go.Proofs.YtodnggilomanbaaGreatDoorW.PrintLast Go.Proofs.YtodnggilomanbaaGreatDoorW.PrintMore Go.Proofs.YtodnggilomanbaaGreatDoor.PAll
set_option linter.unusedVariables false
set_option linter.unusedSimpArgs false

def cF.T : Bool × List (List Nat × List Nat) := (true, [([], []), ([], []), ([1], [1]), ([2], [2]), ([], []), ([4], [4]), ([5], [5]), ([3, 6], [3, 6]), ([0, 7], [0, 7]), ([8, 8, 0, 1, 2, 3, 4, 5, 6, 7, 8], [0, 8])])
def cF.B : List Nat := [0, 0, 2, 6, 0, 16, 48, 126, 255, 511]
theorem cF.tab : rtab .any (opsOf Tryz.f69 11) = cF.T := p12z
theorem cF.bits : waitsOk cF.T.2 cF.B = true := p12z
def shD : DataW Unit := lay [(34, 34), (92, 92), (8, 98), (12, 102), (10, 110), (13, 114), (9, 116)] (.map [])
def shV (c : Int) : Int := if c = 34 then 34 else if c = 92 then 92 else if c = 8 then 98 else if c = 12 then 102 else if c = 10 then 110 else if c = 13 then 114 else if c = 9 then 116 else 0
def shH (c : Int) : Bool := decide (c = 34) || decide (c = 92) || decide (c = 8) || decide (c = 12) || decide (c = 10) || decide (c = 13) || decide (c = 9)
theorem sh_all : ∀ c : Fin 256, num? (shD.atKey (.int .u8 (c.val : Int)) (.lit (.int .u8 0))) = shV (c.val : Int) ∧ Maps.has shD (.int .u8 (c.val : Int)) = shH (c.val : Int) := p103z
theorem sh_has {c : Int} (h0 : 0 ≤ c) (h1 : c ≤ 255) : Maps.has shD (.int .u8 c) = shH c := by
  have := (sh_all ⟨c.toNat, by omega⟩).2
  rwa [show (((⟨c.toNat, by omega⟩ : Fin 256).val : Nat) : Int) = c from Int.toNat_of_nonneg h0] at this
theorem sh_val {c x : Int} (h0 : 0 ≤ c) (h1 : c ≤ 255) (h : shD.atKey (.int .u8 c) (.lit (.int .u8 0)) = .lit (.int .u8 x)) : x = shV c := by
  have := (sh_all ⟨c.toNat, by omega⟩).1
  rw [show (((⟨c.toNat, by omega⟩ : Fin 256).val : Nat) : Int) = c from Int.toNat_of_nonneg h0, h] at this
  exact this
/-- A small digit. -/
def hexC (d : Int) : Int := if d < 10 then 48 + d else 87 + d
def hexT : ByteArray := ⟨#[48, 49, 50, 51, 52, 53, 54, 55, 56, 57, 97, 98, 99, 100, 101, 102]⟩
theorem hex_all : ∀ d : Fin 16, ((hexT[d.val]'(d.isLt)).toNat : Int) = hexC (d.val : Int) := p103z
theorem hex_at {d : Int} (h0 : 0 ≤ d) (h1 : d < 16) (h : d.toNat < hexT.size) : ((hexT[d.toNat]'h).toNat : Int) = hexC d := by
  have := hex_all ⟨d.toNat, by omega⟩
  rwa [show (((⟨d.toNat, by omega⟩ : Fin 16).val : Nat) : Int) = d from Int.toNat_of_nonneg h0] at this
theorem band_all : ∀ c : Fin 256, bits .and .u8 (c.val : Int) 15 = (c.val : Int) % 16 := p103z
theorem band_at {c : Int} (h0 : 0 ≤ c) (h1 : c ≤ 255) : bits .and .u8 c 15 = c % 16 := by
  have := band_all ⟨c.toNat, by omega⟩
  rwa [show (((⟨c.toNat, by omega⟩ : Fin 256).val : Nat) : Int) = c from Int.toNat_of_nonneg h0] at this
def escB (c : Int) : List Int := if shH c = true then [92, shV c] else if c < 32 then [92, 117, 48, 48, hexC (c / 16), hexC (c % 16)] else [c]
def quoL (s : ByteArray) : List Int := 34 :: ((bytesOf s).flatMap escB ++ [34])
def quoF (s : ByteArray) : ByteArray := strOfNums (quoL s)
theorem escB_len (c : Int) : 1 ≤ (escB c).length ∧ (escB c).length ≤ 6 := by
  unfold escB
  (repeat' split) <;> simp
theorem flat_len : ∀ l : List Int, (l.flatMap escB).length ≤ 6 * l.length
  | [] => by simp
  | c :: l => by
    have := flat_len l
    have := (escB_len c).2
    rw [List.flatMap_cons, List.length_append, List.length_cons]
    omega
theorem gB (s : ByteArray) : isBy (bytesOf s) = true := by
  unfold isBy bytesOf
  rw [List.all_eq_true]
  intro x hx
  obtain ⟨b, _, rfl⟩ := List.mem_map.1 hx
  have := b.toNat_lt
  simp only [Bool.and_eq_true, decide_eq_true_eq]
  omega
theorem rowN (W : World) (base : Nat) (xs : List Int) (c : Array Value) (hc : c = (nums .u8 xs).toArray) (h : base ≤ W.heap.size) (hl : xs.length ≤ 1000) : Kd.R (Kd.int .u8) 5 (W.alloc (.cells c 5)) base (fun k => k = W.heap.size) (.slice (some ⟨W.heap.size, 0, none⟩) xs.length xs.length) xs := by
  subst hc
  exact Kd.R_of_own (enc := Value.int .u8) (h1 := fun _ => rfl) (own_lit W base 5 .u8 xs h (by omega)) (fun k hk => by simp [Value.ownBlock] at hk; exact hk.symm)
theorem ef (s : ByteArray) (w : World) (hs : s.size ≤ 1073741824) :
 Calls Tryz.prog 69 #[.string s] w fun e w' => e = .returned (.string (quoF s)) ∧ Below w.heap.size w w' := by
 have hmm := @run_makeMap Tryz.prog
 have hown : (w.alloc (.map #[] 0)).ownsMap Tryz.prog 5 (plainElem (H := Unit) Tryz.prog 5) w.heap.size 0 (.map []) := World.ownsMap_made _ _ _ _
 have hB : Below w.heap.size w (w.alloc (.map #[] 0)) := (Below.refl _ _).alloc (Nat.le_refl _) _
 have hcv : ∀ W, (convert 9 23 (.string s)).run Tryz.prog W = .ok (.slice (some ⟨W.heap.size, 0, none⟩) s.size (grownCap W s.size 0 5)) (Lib.bytesWorld W 5 s) := fun W => Lib.run_convert_string_bytes (e := 5) W _ _ _ Tryz.underlying9 Tryz.underlying23 Tryz.underlying5
 go_enter Tryz.func69, Tryz.ntmps69
 go_upto_region 2 with (first | ((with_reducible refine cf rfl ?_); refine bp _ rfl _ _ _ 132 rfl 5 5 law5 Tryz.underlying132 _ _ _ _ rfl hown p109z _ _ _ rfl rfl (keyOf_int_mk Tryz.underlying5 (by decide)) _ [] (plainElem_int Tryz.underlying5 (by decide)) ?_; intro w1 hown1 hgrow1; have n1 := hB.grown hgrow1 hB.size (fun j hj => p95z); clear hgrow1; clear hown hB; have hown := hown1; have hB := n1; clear hown1 n1))
 have hmap : w1.ownsMap Tryz.prog 5 (plainElem (H := Unit) Tryz.prog 5) w.heap.size 7 shD := hown
 clear hown
 have hmlt := hmap.lt
 have HM := hid (And.intro hmap (And.intro hB hmlt))
 clear hmap hB hmlt
 go_wp2
 have hb2 : Below w1.heap.size w1 (Lib.bytesWorld (w1.alloc (.cells #[.int .u8 34] 5)) 5 s) := ((Below.refl _ w1).alloc (Nat.le_refl _) _).trans ((bw_below _ 5 s).mono (by simp))
 have hbw : (w1.alloc (.cells #[.int .u8 34] 5)).heap.size = w1.heap.size + 1 := by simp
 go_loopw [4, 15] (fun v4 v15 wr => ∃ (i : Nat) (l : List Int), v15 = .int .i64 i ∧ i ≤ s.size ∧ l ++ ((bytesOf s).drop i).flatMap escB = 34 :: (bytesOf s).flatMap escB ∧ l.length ≤ 6 * i + 1 ∧ Kd.R (Kd.int .u8) 5 wr w.heap.size (fun k => k ≠ w1.heap.size + 1 ∧ k ≠ w.heap.size) v4 l ∧ Hid (wr.ownsMap Tryz.prog 5 (plainElem (H := Unit) Tryz.prog 5) w.heap.size 7 shD ∧ Below w.heap.size w wr ∧ (∀ j, j < s.size → wr.cell? ⟨w1.heap.size + 1, j, none⟩ = some (.int .u8 ((bytesOf s).getD j 0))) ∧ w1.heap.size + 1 < wr.heap.size)) (fun _ v _ => s.size - (intOf v).toNat)
 case atStart =>
  refine ⟨0, [34], rfl, Nat.zero_le _, rfl, by simp, ?_, hid ⟨?_, ?_, ?_, ?_⟩⟩
  ·exact Kd.R_below (Kd.R_mono (rowN w1 w.heap.size [34] #[.int .u8 34] rfl HM.out.2.1.size (by decide)) (fun k hk => by have := HM.out.2.2; constructor <;> omega)) (bw_below _ 5 s)
  ·exact (HM.out.1.alloc _).kept (grown_of_below (bw_below _ 5 s) none) (by simp)
  ·exact below_step (below_step HM.out.2.1 ((Below.refl _ w1).alloc (Nat.le_refl _) _)) (bw_below _ 5 s)
  ·intro j hj
   rw [← hbw, Lib.bytesWorld_cell _ 5 s j hj, bytes_at s j hj]
  ·rw [Lib.bytesWorld_size, hbw]
   omega
 case round =>
  obtain ⟨i, l, rfl, hi, hfl, hll, hrow, HH⟩ := hrel
  rcases Nat.lt_or_ge i s.size with hlt | hge
  ·have hcell := HH.out.2.2.1 i hlt
   obtain ⟨c, hc⟩ : ∃ c, (bytesOf s).getD i 0 = c := ⟨_, rfl⟩
   rw [hc] at hcell
   have hdr : (bytesOf s).drop i = c :: (bytesOf s).drop (i + 1) := by
    have h2 : i < (bytesOf s).length := by rw [bytesOf_length]; exact hlt
    rw [List.drop_eq_getElem_cons h2, ← hc]
    simp [List.getD_eq_getElem?_getD, List.getElem?_eq_getElem h2]
   have hcr : 0 ≤ c ∧ c ≤ 255 := by rw [← hc]; exact isBy_at (gB s) i (by rw [bytesOf_length]; exact hlt)
   obtain ⟨b0, b1⟩ := hcr
   rw [hdr, List.flatMap_cons] at hfl
   have HFL := hid hfl
   have hhas := sh_has b0 b1
   have hwf : (Lit.int .u8 c).wf = true := by show (decide (0 ≤ c) && decide (c ≤ 255)) = true; simp [b0, b1]
   clear hdr hc hfl
   have hmap := HH.out.1
   obtain ⟨Ao, co, eo⟩ := Kd.R_slice hrow
   subst eo
   have hne : ∀ k, (Value.slice Ao l.length co).ownBlock = some k → k ≠ w1.heap.size + 1 ∧ k ≠ w.heap.size := hrow.1
   have hL : ∀ m : Nat, m ≤ 6 → (l.length + m) * 1 ≤ 140737488355328 := fun m hm => by omega
   have hfr : ∀ (o : Obj) (k : Nat), (wr.alloc o).heap.size ≤ k → k ≠ w1.heap.size + 1 ∧ k ≠ w.heap.size := fun o k hk => by
    have h1 := HH.out.2.2.2
    have h2 := HH.out.1.lt
    simp at hk
    constructor <;> omega
   have hnext : ∀ (o : Obj) (w9 : World), (wr.alloc o).grownBy w9 (Value.slice Ao l.length co).ownBlock → Below w.heap.size w w9 → Hid (w9.ownsMap Tryz.prog 5 (plainElem (H := Unit) Tryz.prog 5) w.heap.size 7 shD ∧ Below w.heap.size w w9 ∧ (∀ j, j < s.size → w9.cell? ⟨w1.heap.size + 1, j, none⟩ = some (.int .u8 ((bytesOf s).getD j 0))) ∧ w1.heap.size + 1 < w9.heap.size) := by
    intro o w9 hg hb
    have h1 := HH.out.2.2.2
    have e1 : (wr.alloc o).heap[w1.heap.size + 1]? = wr.heap[w1.heap.size + 1]? := Below.heap_alloc wr o _ h1
    have e2 := hg.block (w1.heap.size + 1) (by simp; omega) (fun e => (hne _ e.symm).1 rfl)
    refine hid ⟨(HH.out.1.alloc o).kept hg (fun e => (hne _ e.symm).2 rfl), hb, fun j hj => ?_, by have := hg.size; simp at this; omega⟩
    have h3 := HH.out.2.2.1 j hj
    simp only [World.cell?] at h3 ⊢
    rw [e2, e1]
    exact h3
   have hlt2 : ((i : Int) < (s.size : Int)) = True := eq_true (by omega)
   have hd0 : decide ((i : Int) < (s.size : Int)) = true := decide_eq_true (by omega)
   rcases hsh : shH c with _ | _
   ·rw [hsh] at hhas
    by_cases h32 : c < 32
    case neg =>
     have e : escB c = [c] := by rw [escB, hsh, if_neg (by decide), if_neg h32]
     have q32 : decide (c < 32) = false := decide_eq_false h32
     have HE := hid e
     have hL := hL 1 (by omega)
     have hfr := hfr (.cells #[.int .u8 c] 5)
     clear e h32 hsh
     go_wp2_with (first
      | (at_lookup; refine wpList_lookup_own_ok_int _ rfl _ _ 132 rfl 5 5 .u8 law5 Tryz.underlying132 Tryz.underlying5 (zero5 _) _ _ _ rfl hmap _ _ rfl (keyOf_int_mk Tryz.underlying5 hwf) ?_; intro c' hat' hwc)
      | ((with_reducible refine gate_builtin (b := .append) (xs := #[.tmp 25, .tmp 27]) rfl ?_); at_builtin; refine Kd.R_append_rows (Kd.int .u8) (w0 := w) w.heap.size rfl (.tmp 25) (.tmp 27) 23 5 (.int .u8 0) 1 rfl Tryz.underlying23 hinfo5 rfl (by decide) (by omega) (.slice Ao l.length co) l [c] _ _ _ (fun k => k ≠ w1.heap.size + 1 ∧ k ≠ w.heap.size) (fun _ => False) rfl rfl ?aO ?aR (fun _ _ h => h) (fun _ h => h.elim) ?aF ?aB ?aS ?aL ?_; (case aO => exact Kd.R_alloc hrow _); (case aR => exact (Kd.R_reads' (rowN wr 0 [c] _ rfl (Nat.zero_le _) (by simp))).2.2); (case aF => exact hfr); (case aB => exact below_alloc HH.out.2.1 _); (case aS => exact (below_alloc HH.out.2.1 _).size); (case aL => exact hL); intro v9 w9 ho hb hg hat))
     exact ⟨⟨i + 1, l ++ [c], p91z, hlt, by rw [← HFL.out, HE.out, List.append_assoc], by rw [List.length_append, List.length_singleton]; omega, ho, hnext _ w9 hg hb⟩, p93z⟩
    have e : escB c = [92, 117, 48, 48, hexC (c / 16), hexC (c % 16)] := by rw [escB, hsh, if_neg (by decide), if_pos h32]
    have q32 : decide (c < 32) = true := decide_eq_true h32
    have HE := hid e
    have hL := hL 6 (by omega)
    have hfr := hfr (.cells #[.int .u8 92, .int .u8 117, .int .u8 48, .int .u8 48, .int .u8 (hexC (c / 16)), .int .u8 (hexC (c % 16))] 5)
    clear e h32 hsh
    go_upto_region 11 with (at_lookup; refine wpList_lookup_own_ok_int _ rfl _ _ 132 rfl 5 5 .u8 law5 Tryz.underlying132 Tryz.underlying5 (zero5 _) _ _ _ rfl hmap _ _ rfl (keyOf_int_mk Tryz.underlying5 hwf) ?_; intro c' hat' hwc)
    have hbd := band_at b0 b1
    refine start_ (n := 10) (S := fun _ => True) (ds := []) (tf 0 10) p12z rfl rfl trivial (fun hHeld => ?_); refine with_tabW cF.tab cF.bits (fun HT_ HW_ => ?_)
    refine pzz 0 (some 38) (tf 1 9) ?_
    refine pzz 1 (some 39) (tf 2 8) ?_
    refine pzz 2 (some 40) (tf 3 7) ?_
    refine pure_ (i := 3) (N := some 41) (v := .int .u8 (hexC (c / 16))) (a' := ?_) (tf 4 6) rfl rfl (any_of HT_.out p12z) (fun _ _ _ h => h) (Or.inl ⟨by rfl, ?_⟩) ?_ ?_
    ·intro w'
     go_simp
     rw [dif_pos ⟨by omega, by omega⟩]
     have hx := hex_at (d := (c / 16)) (by omega) (by omega) (by show _ < 16; omega)
     unfold hexT at hx
     rw [hx]
     rfl
    rotate_left
    ·exact p89z
    refine pzz 4 (some 42) (tf 5 5) ?_
    refine pzz 5 (some 43) (tf 6 4) ?_
    refine pure_ (i := 6) (N := some 44) (v := .int .u8 (hexC (c % 16))) (a' := ?_) (tf 7 3) rfl rfl (any_of HT_.out p12z) (fun _ _ _ h => h) (Or.inl ⟨by rfl, ?_⟩) ?_ ?_
    ·intro w'
     go_simp
     rw [dif_pos ⟨by omega, by omega⟩]
     have hx := hex_at (d := (c % 16)) (by omega) (by omega) (by show _ < 16; omega)
     unfold hexT at hx
     rw [hx]
     rfl
    rotate_left
    ·exact p89z
    refine one_ (i := 7) (N := some 45) (tf 8 2) rfl rfl (one_of HT_.out p12z) (by decide) (fun K hK => ?_)
    refine value_ (w1 := ?_) (v := ?_) (by rfl) rfl ?_ ?_
    rotate_left 2
    ·go_simp
     constructor
     ·rfl
     ·rfl
    refine hK.out _ _ trivial (fun hHeld => ?_)
    clear hK K
    refine nzz (some 45) ?_
    refine one_ (i := 8) (N := some 46) (tf 9 1) rfl rfl (one_of HT_.out p12z) (by decide) (fun K hK => ?_)
    refine Kd.R_append_rows_step (Kd.int .u8) (w0 := w) w.heap.size (by rfl) (.tmp 38) (.tmp 45) 23 5 (.int .u8 0) 1 rfl Tryz.underlying23 hinfo5 rfl (by decide) (by omega) (.slice Ao l.length co) l [92, 117, 48, 48, hexC (c / 16), hexC (c % 16)] _ _ _ (fun k => k ≠ w1.heap.size + 1 ∧ k ≠ w.heap.size) (fun _ => False) rfl rfl ?aO ?aR (fun _ _ h => h) (fun _ h => h.elim) ?aF ?aB ?aS ?aL ?_
    (case aO => exact Kd.R_alloc (Kd.R_drew hrow) _)
    (case aR => exact (Kd.R_reads' (rowN wr.drew 0 [92, 117, 48, 48, hexC (c / 16), hexC (c % 16)] _ rfl (Nat.zero_le _) (by simp))).2.2)
    (case aF => exact hfr)
    (case aB => exact below_alloc (below_drew1 HH.out.2.1) _)
    (case aS => exact (below_alloc (below_drew1 HH.out.2.1) _).size)
    (case aL => exact hL)
    intro v9 w9 ho hb hg hat
    have hg' : (wr.alloc (.cells #[.int .u8 92, .int .u8 117, .int .u8 48, .int .u8 48, .int .u8 (hexC (c / 16)), .int .u8 (hexC (c % 16))] 5)).grownBy w9 (Value.slice Ao l.length co).ownBlock := ⟨hg.os, hg.tape, hg.output, hg.size, hg.block⟩
    have HN := hnext _ w9 hg' hb
    have HO := hid ho
    clear ho hb hg hat hg'
    refine hK.out _ _ trivial (fun hHeld => ?_)
    clear hK K
    refine nzz (some 46) ?_
    refine pzz 9 (some 4) (tf 10 0) ?_
    refine done_ (done_of HT_.out p12z) ?_
    go_wp2
    exact ⟨⟨i + 1, l ++ [92, 117, 48, 48, hexC (c / 16), hexC (c % 16)], p91z, hlt, by rw [← HFL.out, HE.out, List.append_assoc], by simp only [List.length_append, List.length_cons, List.length_nil]; omega, HO.out, HN⟩, p93z⟩
   ·rw [hsh] at hhas
    have e : escB c = [92, shV c] := by rw [escB, hsh, if_pos rfl]
    have HE := hid e
    have hL := hL 2 (by omega)
    have hfr := hfr (.cells #[.int .u8 92, .int .u8 (shV c)] 5)
    clear e hsh
    go_wp2_with (first
     | (at_lookup; refine wpList_lookup_own_ok_int _ rfl _ _ 132 rfl 5 5 .u8 law5 Tryz.underlying132 Tryz.underlying5 (zero5 _) _ _ _ rfl hmap _ _ rfl (keyOf_int_mk Tryz.underlying5 hwf) ?_; intro c' hat' hwc; obtain rfl := sh_val b0 b1 hat'; clear hat')
     | ((with_reducible refine gate_builtin (b := .append) (xs := #[.tmp 31, .tmp 33]) rfl ?_); at_builtin; refine Kd.R_append_rows (Kd.int .u8) (w0 := w) w.heap.size rfl (.tmp 31) (.tmp 33) 23 5 (.int .u8 0) 1 rfl Tryz.underlying23 hinfo5 rfl (by decide) (by omega) (.slice Ao l.length co) l [92, shV c] _ _ _ (fun k => k ≠ w1.heap.size + 1 ∧ k ≠ w.heap.size) (fun _ => False) rfl rfl ?aO ?aR (fun _ _ h => h) (fun _ h => h.elim) ?aF ?aB ?aS ?aL ?_; (case aO => exact Kd.R_alloc hrow _); (case aR => exact (Kd.R_reads' (rowN wr 0 [92, shV c] _ rfl (Nat.zero_le _) (by simp))).2.2); (case aF => exact hfr); (case aB => exact below_alloc HH.out.2.1 _); (case aS => exact (below_alloc HH.out.2.1 _).size); (case aL => exact hL); intro v9 w9 ho hb hg hat))
    exact ⟨⟨i + 1, l ++ [92, shV c], p91z, hlt, by rw [← HFL.out, HE.out, List.append_assoc], by rw [List.length_append, List.length_cons, List.length_singleton]; omega, ho, hnext _ w9 hg hb⟩, p93z⟩
  ·have hb0 : decide ((i : Int) < (s.size : Int)) = false := decide_eq_false (by omega)
   rw [List.drop_eq_nil_iff.2 (by rw [bytesOf_length]; exact hge), List.flatMap_nil, List.append_nil] at hfl
   have HFL := hid hfl
   have hql : quoF s = strOfNums (l ++ [34]) := by rw [hfl, quoF, quoL, List.cons_append]
   obtain ⟨Ao, co, eo⟩ := Kd.R_slice hrow
   subst eo
   have hL : (l.length + 1) * 1 ≤ 140737488355328 := by omega
   have hfr : ∀ k, (wr.alloc (.cells #[.int .u8 34] 5)).heap.size ≤ k → k ≠ w1.heap.size + 1 ∧ k ≠ w.heap.size := fun k hk => by
    have h1 := HH.out.2.2.2
    have h2 := HH.out.1.lt
    simp at hk
    constructor <;> omega
   have HQL := hid hql
   clear hfl hql
   go_wp2_with (((with_reducible refine gate_builtin (b := .append) (xs := #[.tmp 48, .tmp 49]) rfl ?_); at_builtin; refine Kd.R_append_rows (Kd.int .u8) (w0 := w) w.heap.size rfl (.tmp 48) (.tmp 49) 23 5 (.int .u8 0) 1 rfl Tryz.underlying23 hinfo5 rfl (by decide) (by omega) (.slice Ao l.length co) l [34] _ _ _ (fun k => k ≠ w1.heap.size + 1 ∧ k ≠ w.heap.size) (fun _ => False) rfl rfl ?aO ?aR (fun _ _ h => h) (fun _ h => h.elim) ?aF ?aB ?aS ?aL ?_; (case aO => exact Kd.R_alloc hrow _); (case aR => exact (Kd.R_reads' (rowN wr 0 [34] _ rfl (Nat.zero_le _) (by simp))).2.2); (case aF => exact hfr); (case aB => exact below_alloc HH.out.2.1 _); (case aS => exact (below_alloc HH.out.2.1 _).size); (case aL => exact hL); intro v9 w9 ho hb hg hat; have hcs := own_string (P := Tryz.prog) Tryz.underlying23 Tryz.underlying5 Tryz.underlying9 (xs := l ++ [34]) (Kd.own_of_R ho)))
   go_ret
   exact ⟨by rw [HQL.out]; rfl, hb⟩
end Go.Proofs.YtodnggilomanbaaGreatDoor.Hand
