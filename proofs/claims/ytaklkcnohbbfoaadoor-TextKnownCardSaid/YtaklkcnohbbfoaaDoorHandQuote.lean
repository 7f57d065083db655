/-
  text.Quote: the walk.
-/
import Derived.Test.YtaklkcnohbbfoaaDoorHandMap
namespace Go.Proofs.YtaklkcnohbbfoaaDoor.Hand
open Go.RowKit Go.Maps Go.Proofs.YtaklkcnohbbfoaaDoorW.PrintWords
set_option linter.unusedVariables false
set_option linter.unusedSimpArgs false

/-- The tidy spelling of a byte. -/
def qt (c : Int) : List Int :=
  if c = 10 then [92, 110] else if c = 13 then [92, 114] else if c = 9 then [92, 116] else if c = 34 then [92, 34] else if c = 92 then [92, 92]
  else if c < 32 ∨ c > 126 then [92, 48 + c / 64, 48 + c / 8 % 8, 48 + c % 8] else [c]
def text_Quote.f (l0 : List Int) : Option ByteArray := if l0.length ≤ 1099511627776 ∧ isBy l0 = true then some (strOfNums (34 :: l0.flatMap qt ++ [34])) else none
def quoteD : DataW Unit := lay [(10, 110), (13, 114), (9, 116), (34, 34), (92, 92)] (.map [])
def quoteV (c : Int) : Int := if c = 10 then 110 else if c = 13 then 114 else if c = 9 then 116 else if c = 34 then 34 else if c = 92 then 92 else 0
def quoteH (c : Int) : Bool := decide (c = 10) || decide (c = 13) || decide (c = 9) || decide (c = 34) || decide (c = 92)
theorem quote_all : ∀ c : Fin 256, num? (quoteD.atKey (.int .u8 (c.val : Int)) (.lit (.int .u8 0))) = quoteV (c.val : Int) ∧ Maps.has quoteD (.int .u8 (c.val : Int)) = quoteH (c.val : Int) := by decide +kernel
theorem quote_has {c : Int} (h0 : 0 ≤ c) (h1 : c ≤ 255) : Maps.has quoteD (.int .u8 c) = quoteH c := by
  have := (quote_all ⟨c.toNat, by omega⟩).2
  rwa [show (((⟨c.toNat, by omega⟩ : Fin 256).val : Nat) : Int) = c from Int.toNat_of_nonneg h0] at this
theorem quote_val {c x : Int} (h0 : 0 ≤ c) (h1 : c ≤ 255) (h : quoteD.atKey (.int .u8 c) (.lit (.int .u8 0)) = .lit (.int .u8 x)) : x = quoteV c := by
  have := (quote_all ⟨c.toNat, by omega⟩).1
  rw [show (((⟨c.toNat, by omega⟩ : Fin 256).val : Nat) : Int) = c from Int.toNat_of_nonneg h0, h] at this
  exact this
/-- What Quote has written of the first i bytes. -/
def qout (l : List Int) (i : Nat) : List Int := 34 :: (l.take i).flatMap qt
theorem qt_len (c : Int) : (qt c).length ≤ 4 := by
  unfold qt
  repeat' split
  all_goals simp
theorem flat_len : ∀ l : List Int, (l.flatMap qt).length ≤ 4 * l.length
  | [] => by simp
  | c :: l => by
    rw [List.flatMap_cons, List.length_append, List.length_cons]
    have := qt_len c
    have := flat_len l
    omega
theorem qout_len (l : List Int) (i : Nat) (h : i ≤ l.length) : (qout l i).length ≤ 4 * i + 1 := by
  unfold qout
  rw [List.length_cons]
  have := flat_len (l.take i)
  rw [List.length_take] at this
  omega
theorem qout_next {l : List Int} {i : Nat} (h : i < l.length) {x : List Int} (hx : qt (l.getD i 0) = x) : qout l (i + 1) = qout l i ++ x := by
  subst hx
  unfold qout
  rw [List.getD_eq_getElem?_getD, List.getElem?_eq_getElem h, List.cons_append, List.take_add_one, List.getElem?_eq_getElem h, List.flatMap_append]
  simp
abbrev QRel (w wr : World) (l0 : List Int) (v x : Value) : Prop := ∃ i : Nat, i ≤ l0.length ∧ x = .int .i64 i ∧ wr.ownsMap Tryd.prog 5 (plainElem (H := Unit) Tryd.prog 5) w.heap.size 5 quoteD ∧ wr.ownsRow (w.heap.size + 1) 5 1 v (qout l0 i).length (nums .u8 (qout l0 i)) ∧ Below w.heap.size w wr ∧ w.heap.size + 1 ≤ wr.heap.size
theorem quote_round {w wr w2 : World} {l0 : List Int} {i m : Nat} {v v' : Value} {o : Obj} {x : List Int} {news : List Value} (hmap : wr.ownsMap Tryd.prog 5 (plainElem (H := Unit) Tryd.prog 5) w.heap.size 5 quoteD)
    (hrow : wr.ownsRow (w.heap.size + 1) 5 1 v (qout l0 i).length (nums .u8 (qout l0 i))) (hB : Below w.heap.size w wr) (hsz : w.heap.size + 1 ≤ wr.heap.size) (hg : (wr.alloc o).grownBy w2 v.ownBlock)
    (ho : w2.ownsRow (w.heap.size + 1) 5 1 v' ((qout l0 i).length + m) (nums .u8 (qout l0 i) ++ news)) (hlt : i < l0.length) (hx : qt (l0.getD i 0) = x) (hn : news = nums .u8 x) (hm : m = x.length) :
    QRel w w2 l0 v' (.int .i64 ((i : Int) + 1)) := by
  have hb := own_base hrow
  refine ⟨i + 1, hlt, by simp, (hmap.alloc o).kept hg (fun e => ?_), ?_, (hB.alloc hB.size o).grown hg (by simp; omega) (fun k hk => by have := hb k hk; omega), ?_⟩
  · have := hb _ e.symm
    omega
  · rw [qout_next hlt hx, nums_append, List.length_append, ← hn, ← hm]
    exact ho
  · have := hg.size
    simp at this
    omega
set_option maxRecDepth 100000 in
set_option maxHeartbeats 4000000 in
theorem quote_walk (A : Option Addr) (c0 : Nat) (l0 : List Int) (w : World) (hr : (Kd.int .u8).C w A l0.length l0) (hl : l0.length ≤ 1099511627776) (hBy : isBy l0 = true) (hc : l0.length ≤ c0) :
    Calls Tryd.prog 30 #[.slice A l0.length c0] w fun e w' => e = .returned (.string (strOfNums (34 :: l0.flatMap qt ++ [34]))) ∧ Below w.heap.size w w' := by
  have hcells := hid (cells_of_C hr)
  have hmm := @run_makeMap Tryd.prog
  obtain ⟨i0, hi, hz0, hz1, hz2⟩ := info_parts hinfo5
  have hown : (w.alloc (.map #[] 0)).ownsMap Tryd.prog 5 (plainElem (H := Unit) Tryd.prog 5) w.heap.size 0 (.map []) := World.ownsMap_made _ _ _ _
  have hB : Below w.heap.size w (w.alloc (.map #[] 0)) := (Below.refl _ _).alloc (Nat.le_refl _) _
  go_enter Tryd.func30, Tryd.ntmps30
  go_wp2_with (first | ((with_reducible refine gate_insert rfl ?_); refine wpList_insert_own _ rfl _ _ _ 67 rfl 5 5 law5 Tryd.underlying67 _ _ _ _ rfl hown (by unfold maxLen; omega) _ _ _ rfl rfl (keyOf_int_mk Tryd.underlying5 (by decide)) _ [] (plainElem_int Tryd.underlying5 (by decide)) ?_; intro w1 hown1 hgrow1; have n1 := hB.grown hgrow1 hB.size (fun j hj => by cases hj; exact Nat.le_refl _); clear hgrow1; clear hB; clear hown; have hown := hown1; have hB := n1; clear n1 hown1))
  have hlt0 := hown.lt
  have hrow0 : (w1.alloc (.cells #[.int .u8 34] 5)).ownsRow (w.heap.size + 1) 5 1 (.slice (some ⟨w1.heap.size, 0, none⟩) 1 1) 1 (nums .u8 [34]) := by
    have h2 := World.ownsRow_lit (base := w.heap.size + 1) (e := 5) (size := 1) w1 #[.int .u8 34] 1 (by omega) (by decide) (by rfl)
    simpa [nums] using h2
  rcases A with _ | ad
  · have hl0 : l0 = [] := by
      rcases l0 with _ | ⟨x, l0⟩
      · rfl
      · obtain ⟨_, e, _⟩ := hr.2.2 (by simp)
        cases e
    subst hl0
    refine wp_loop_rounds 1 ?_
    rw [rounds_succ]
    go_wp2_with (first
      | (at_builtin; refine wpList_append_own _ rfl _ _ 22 rfl (w.heap.size + 1) 5 i0 (.int .u8 0) 1 1 Tryd.underlying22 hi hz0 hz1 hz2 rfl (by decide) _ _ _ rfl (hrow0.alloc _) ⟨w1.heap.size + 1, 0, none⟩ 1 1 [_] (by first | rfl | simp) rfl (by have hh := cells_new (w1.alloc (.cells #[.int .u8 34] 5)) [.int .u8 34] 5 #[.int .u8 34] rfl; simpa using hh) (by simp [Value.oneCell']) (by simp only [maxLen]; omega) (by omega) (by simp; omega) ?_; intro v' w2 hown2 hgrow2 hnil2; have hcv := own_string (P := Tryd.prog) Tryd.underlying22 Tryd.underlying5 Tryd.underlying9 (xs := [34, 34]) (by exact hown2)))
    go_ret
    exact ⟨rfl, ((hB.alloc hB.size _).alloc (by simp; omega) _).grown hgrow2 (by simp; omega) (fun k hk => by have := own_base hrow0 k hk; omega)⟩
  go_loopw [4, 14] (fun v x wr => QRel w wr l0 v x)
    (fun _ x _ => l0.length - (intOf x).toNat)
  case atStart =>
    refine ⟨0, Nat.zero_le _, rfl, hown.alloc _, ?_, hB.alloc hB.size _, by simp; omega⟩
    simpa [qout, nums] using hrow0
  case round =>
    obtain ⟨i, hil, rfl, hmap, hrow, hBw, hsz⟩ := hrel
    have hql := qout_len l0 i hil
    by_cases hlt : i < l0.length
    · obtain ⟨c, hcd⟩ : ∃ c, l0.getD i 0 = c := ⟨_, rfl⟩
      obtain ⟨b0, b1⟩ := isBy_at hBy i hlt
      rw [hcd] at b0 b1
      have hwf : (Lit.int .u8 c).wf = true := by show (decide (0 ≤ c) && decide (c ≤ 255)) = true; simp [b0, b1]
      have hcx : wr.cell? (ad.add i) = some (.int .u8 c) := by
        refine pw_cell_below hBw (hcells.out ad rfl i _ ?_)
        rw [← hcd]
        simp [nums, List.getElem?_map, List.getElem?_eq_getElem hlt, List.getD_eq_getElem?_getD]
      have hhas := quote_has b0 b1
      by_cases his : quoteH c = true
      · rw [his] at hhas
        go_wp2_with (first
          | (at_lookup; refine wpList_lookup_own_ok_int _ rfl _ _ 67 rfl 5 5 .u8 law5 Tryd.underlying67 Tryd.underlying5 (zero5 _) _ _ _ rfl hmap _ _ rfl (keyOf_int_mk Tryd.underlying5 hwf) ?_; intro c' hat hwc)
          | (at_builtin; refine wpList_append_own _ rfl _ _ 22 rfl (w.heap.size + 1) 5 i0 (.int .u8 0) 1 1 Tryd.underlying22 hi hz0 hz1 hz2 rfl (by decide) _ _ _ rfl (hrow.alloc _) ⟨wr.heap.size, 0, none⟩ 2 2 [_, _] rfl rfl (cells_new _ _ _ _ rfl) (by simp [Value.oneCell']) (by simp only [maxLen]; omega) (by omega) (by simp; omega) ?_; intro v' w2 hown2 hgrow2 hnil2))
        obtain rfl := quote_val b0 b1 hat
        refine ⟨quote_round hmap hrow hBw hsz hgrow2 hown2 hlt (x := [92, quoteV c]) ?_ rfl rfl, by simp [intOf]; omega⟩
        rw [hcd]
        simp only [quoteH, Bool.or_eq_true, decide_eq_true_eq] at his
        rcases his with (((rfl | rfl) | rfl) | rfl) | rfl <;> rfl
      · have his' : quoteH c = false := by simpa using his
        rw [his'] at hhas
        simp only [quoteH, Bool.or_eq_true, decide_eq_true_eq, not_or] at his
        by_cases h32 : c < 32
        · go_wp2_with (first
            | (at_lookup; refine wpList_lookup_own_ok_int _ rfl _ _ 67 rfl 5 5 .u8 law5 Tryd.underlying67 Tryd.underlying5 (zero5 _) _ _ _ rfl hmap _ _ rfl (keyOf_int_mk Tryd.underlying5 hwf) ?_; intro c' hat hwc)
            | (at_builtin; refine wpList_append_own _ rfl _ _ 22 rfl (w.heap.size + 1) 5 i0 (.int .u8 0) 1 1 Tryd.underlying22 hi hz0 hz1 hz2 rfl (by decide) _ _ _ rfl (hrow.alloc _) ⟨wr.heap.size, 0, none⟩ 4 4 [_, _, _, _] rfl rfl (cells_new _ _ _ _ rfl) (by simp [Value.oneCell']) (by simp only [maxLen]; omega) (by omega) (by simp; omega) ?_; intro v' w2 hown2 hgrow2 hnil2))
          refine ⟨quote_round hmap hrow hBw hsz hgrow2 hown2 hlt (x := [92, 48 + c / 64, 48 + c / 8 % 8, 48 + c % 8]) ?_ rfl rfl, by simp [intOf]; omega⟩
          rw [hcd, qt, if_neg (by omega), if_neg (by omega), if_neg (by omega), if_neg (by omega), if_neg (by omega), if_pos (by omega)]
        · by_cases h126 : 126 < c
          · go_wp2_with (first
              | (at_lookup; refine wpList_lookup_own_ok_int _ rfl _ _ 67 rfl 5 5 .u8 law5 Tryd.underlying67 Tryd.underlying5 (zero5 _) _ _ _ rfl hmap _ _ rfl (keyOf_int_mk Tryd.underlying5 hwf) ?_; intro c' hat hwc)
              | (at_builtin; refine wpList_append_own _ rfl _ _ 22 rfl (w.heap.size + 1) 5 i0 (.int .u8 0) 1 1 Tryd.underlying22 hi hz0 hz1 hz2 rfl (by decide) _ _ _ rfl (hrow.alloc _) ⟨wr.heap.size, 0, none⟩ 4 4 [_, _, _, _] rfl rfl (cells_new _ _ _ _ rfl) (by simp [Value.oneCell']) (by simp only [maxLen]; omega) (by omega) (by simp; omega) ?_; intro v' w2 hown2 hgrow2 hnil2))
            refine ⟨quote_round hmap hrow hBw hsz hgrow2 hown2 hlt (x := [92, 48 + c / 64, 48 + c / 8 % 8, 48 + c % 8]) ?_ rfl rfl, by simp [intOf]; omega⟩
            rw [hcd, qt, if_neg (by omega), if_neg (by omega), if_neg (by omega), if_neg (by omega), if_neg (by omega), if_pos (by omega)]
          · go_wp2_with (first
              | (at_lookup; refine wpList_lookup_own_ok_int _ rfl _ _ 67 rfl 5 5 .u8 law5 Tryd.underlying67 Tryd.underlying5 (zero5 _) _ _ _ rfl hmap _ _ rfl (keyOf_int_mk Tryd.underlying5 hwf) ?_; intro c' hat hwc)
              | (at_builtin; refine wpList_append_own _ rfl _ _ 22 rfl (w.heap.size + 1) 5 i0 (.int .u8 0) 1 1 Tryd.underlying22 hi hz0 hz1 hz2 rfl (by decide) _ _ _ rfl (hrow.alloc _) ⟨wr.heap.size, 0, none⟩ 1 1 [_] rfl rfl (cells_new _ _ _ _ rfl) (by simp [Value.oneCell']) (by simp only [maxLen]; omega) (by omega) (by simp; omega) ?_; intro v' w2 hown2 hgrow2 hnil2))
            refine ⟨quote_round hmap hrow hBw hsz hgrow2 hown2 hlt (x := [c]) ?_ rfl rfl, by simp [intOf]; omega⟩
            rw [hcd, qt, if_neg (by omega), if_neg (by omega), if_neg (by omega), if_neg (by omega), if_neg (by omega), if_neg (by omega)]
    · have hie : i = l0.length := by omega
      subst hie
      go_wp2_with (first
        | (at_builtin; refine wpList_append_own _ rfl _ _ 22 rfl (w.heap.size + 1) 5 i0 (.int .u8 0) 1 1 Tryd.underlying22 hi hz0 hz1 hz2 rfl (by decide) _ _ _ rfl (hrow.alloc _) ⟨wr.heap.size, 0, none⟩ 1 1 [_] rfl rfl (cells_new _ _ _ _ rfl) (by simp [Value.oneCell']) (by simp only [maxLen]; omega) (by omega) (by simp; omega) ?_; intro v' w2 hown2 hgrow2 hnil2; have hcv := own_string (P := Tryd.prog) Tryd.underlying22 Tryd.underlying5 Tryd.underlying9 (xs := qout l0 l0.length ++ [34]) (by rw [nums_append]; exact hown2)))
      go_ret
      exact ⟨by rw [qout, List.take_length]; rfl, (hBw.alloc hBw.size _).grown hgrow2 (by simp; omega) (fun k hk => by have := own_base hrow k hk; omega)⟩
theorem text_Quote.calls (A0 : Option Addr) (c0 : Nat) (l0 : List Int) (r : ByteArray) (w : World) (hr0 : Kd.C (Kd.int .u8) w A0 l0.length l0) (hc0 : l0.length ≤ c0) (h : text_Quote.f l0 = some r) :
    Calls Tryd.prog 30 #[.slice A0 l0.length c0] w fun e w' => e = .returned (.string r) ∧ Below w.heap.size w w' := by
  unfold text_Quote.f at h
  split at h
  · rename_i hh
    obtain rfl := Option.some.inj h
    exact quote_walk A0 c0 l0 w hr0 hh.1 hh.2 hc0
  · cases h
end Go.Proofs.YtaklkcnohbbfoaaDoor.Hand
