/-
  strings.Builder's copyCheck and WriteByte with a frame that keeps other rows; text.Key: the walks.
-/
import Derived.Test.YtaklkcnohbbfoaaDoorHandMap
import Derived.Test.YtaklkcnohbbfoaaDoorShelf
namespace Go.Proofs.YtaklkcnohbbfoaaDoor.Hand
open Go.RowKit Go.Proofs.YtaklkcnohbbfoaaDoorW.PrintWords
set_option linter.unusedVariables false
set_option linter.unusedSimpArgs false

theorem hinfo58 : (Tryd.prog.info? 58).map (fun i => i.size) = some 2 := by kernel_rfl
theorem lies58 : liesAt Tryd.prog Tryd.prog.depth 58 (2 / Tryd.prog.cellsOf 58) 0 58 1 = true := by kernel_rfl
set_option maxHeartbeats 1000000 in
set_option maxRecDepth 1000000 in
theorem check_used (b : Nat) (w : World) (h0 : w.cell? ⟨b, 0, none⟩ = some (.pointer (some ⟨b, 0, none⟩))) :
    Calls Tryd.prog 57 #[.pointer (some ⟨b, 0, none⟩)] w fun e w' => e = .returned (.tuple #[]) ∧ w' = w := by
  obtain ⟨j, hj⟩ : ∃ j, Tryd.prog.info? 58 = some j := by
    obtain ⟨j, hj, _⟩ := Option.map_eq_some_iff.1 hinfo58
    exact ⟨j, hj⟩
  go_enter Tryd.func57, Tryd.ntmps57
  go_wp2
  rw [Lib.run_neq_ptr_same w _ Tryd.underlying56 hj]
  go_wp2
  go_end0
  exact ⟨rfl, rfl⟩
set_option maxHeartbeats 1000000 in
set_option maxRecDepth 1000000 in
theorem check_fresh (b : Nat) (w : World) (h0 : w.cell? ⟨b, 0, none⟩ = some (.pointer none)) (hsh : w.shape? b = some (58, 2)) (hfz : w.frozen? ⟨b, 0, none⟩ = false) :
    Calls Tryd.prog 57 #[.pointer (some ⟨b, 0, none⟩)] w fun e w' => e = .returned (.tuple #[]) ∧ w' = w.setCell ⟨b, 0, none⟩ (.pointer (some ⟨b, 0, none⟩)) := by
  obtain ⟨j, hj, hjs⟩ : ∃ j, Tryd.prog.info? 58 = some j ∧ j.size ≠ 0 := by
    obtain ⟨j, hj, hs⟩ := Option.map_eq_some_iff.1 hinfo58
    exact ⟨j, hj, by rw [hs]; decide⟩
  go_enter Tryd.func57, Tryd.ntmps57
  go_wp2
  rw [Lib.run_to_unsafe w ⟨b, 0, none⟩ Tryd.underlying56 Tryd.underlying84 hj hjs hsh (Nat.zero_lt_succ 1)]
  simp only [Result.andThen]
  rw [Oper.upon_value]
  go_wp2
  rw [run_callFunc_extern Tryd.func63 (by kernel_rfl) (by kernel_rfl) (by kernel_rfl) (e := Extern.AbiNoEscape.same) (by kernel_rfl)]
  rw [Lib.run_noEscape]
  simp only [Result.andThen]
  rw [Oper.upon_value]
  go_wp2
  rw [Lib.run_from_unsafe w ⟨b, 0, none⟩ Tryd.underlying84 Tryd.underlying56 hj hsh lies58]
  simp only [Result.andThen]
  rw [Oper.upon_value]
  go_wp2
  go_end0
  exact ⟨rfl, rfl⟩
/-- What lies in other blocks than b and the row stands. -/
def Fr (b : Nat) (row : Option Nat) (w w' : World) : Prop := w'.os = w.os ∧ w'.tape = w.tape ∧ w'.output = w.output ∧ w.heap.size ≤ w'.heap.size ∧ ∀ k, k < w.heap.size → k ≠ b → some k ≠ row → w'.heap[k]? = w.heap[k]?
theorem Fr.refl (b : Nat) (row : Option Nat) (w : World) : Fr b row w w := ⟨rfl, rfl, rfl, Nat.le_refl _, fun _ _ _ _ => rfl⟩
theorem Fr.set {b i : Nat} {row : Option Nat} {w w' : World} (h : Fr b row w w') (u : Value) : Fr b row w (w'.setCell ⟨b, i, none⟩ u) :=
  ⟨h.1, h.2.1, h.2.2.1, by rw [World.size_setCell]; exact h.2.2.2.1, fun k hk hb hr => (Below.heap_setCell _ _ _ k hb).trans (h.2.2.2.2 k hk hb hr)⟩
theorem Fr.grown {b : Nat} {row : Option Nat} {w w1 w2 : World} {o : Obj} (h : Fr b row w w1) (hg : (w1.alloc o).grownBy w2 row) : Fr b row w w2 := by
  have hs := hg.size
  simp at hs
  refine ⟨hg.os.trans h.1, hg.tape.trans h.2.1, hg.output.trans h.2.2.1, by have := h.2.2.2.1; omega, fun k hk hb hr => ?_⟩
  have hk1 : k < w1.heap.size := Nat.lt_of_lt_of_le hk h.2.2.2.1
  rw [hg.block k (by simp; omega) hr, Lib.alloc_old w1 _ k hk1]
  exact h.2.2.2.2 k hk hb hr
theorem check_any (b : Nat) (p v : Value) (w : World) (hb : w.heap[b]? = some (.cells #[p, v] 58 (0, 0))) (hp : p = .pointer none ∨ p = .pointer (some ⟨b, 0, none⟩)) :
    Calls Tryd.prog 57 #[.pointer (some ⟨b, 0, none⟩)] w fun e w' => e = .returned (.tuple #[]) ∧ w'.heap[b]? = some (.cells #[.pointer (some ⟨b, 0, none⟩), v] 58 (0, 0)) ∧ Fr b none w w' ∧ w'.heap.size = w.heap.size := by
  have c0 : w.cell? ⟨b, 0, none⟩ = some p := by rw [Lib.cell_of_heap hb]; rfl
  rcases hp with rfl | rfl
  · refine (check_fresh b w c0 (by simp [World.shape?, hb]) (Lib.frozen_of_heap hb 0)).mono ?_
    rintro e w' ⟨rfl, rfl⟩
    exact ⟨rfl, heap_setCell_same w b 0 _ 58 _ hb, (Fr.refl b none w).set _, World.size_setCell _ _ _⟩
  · refine (check_used b w c0).mono ?_
    rintro e w' ⟨rfl, rfl⟩
    exact ⟨rfl, hb, Fr.refl b none w', rfl⟩
set_option maxHeartbeats 2000000 in
set_option maxRecDepth 1000000 in
theorem write_byte (b base : Nat) (p v : Value) (xs : List Int) (c : Int) (w : World) (hbb : b < base) (hbase : base ≤ w.heap.size) (hp : p = .pointer none ∨ p = .pointer (some ⟨b, 0, none⟩))
    (hh : w.heap[b]? = some (.cells #[p, v] 58 (0, 0))) (ho : w.ownsRow base 5 1 v xs.length (nums .u8 xs)) (hlen : xs.length + 1 ≤ 140737488355328) :
    Calls Tryd.prog 49 #[.pointer (some ⟨b, 0, none⟩), .int .u8 c] w fun e w' => e = .returned .nilIface ∧ ∃ v', w'.heap[b]? = some (.cells #[.pointer (some ⟨b, 0, none⟩), v'] 58 (0, 0)) ∧ w'.ownsRow base 5 1 v' (xs ++ [c]).length (nums .u8 (xs ++ [c])) ∧ Fr b v.ownBlock w w' := by
  obtain ⟨i0, hi, hz0, hz1, hz2⟩ := info_parts hinfo5
  have hbo := own_base ho
  go_enter Tryd.func49, Tryd.ntmps49
  have ho1 : ∀ w1, Fr b none w w1 → w1.ownsRow base 5 1 v xs.length (nums .u8 xs) := fun w1 hf1 => own_move ho (fun k hk => hf1.2.2.2.2 k (own_lt ho k hk) (by have := hbo k hk; omega) (by simp))
  have HO := hid ho1
  clear ho1
  go_wp2_with (first
    | (go_at_call 57; refine (check_any b p v w hh hp).mono ?_; rintro e w1 ⟨rfl, hh1, hf1, hs1⟩; have HS1 := hid hs1; clear hs1; have c1 : w1.cell? ⟨b, 1, none⟩ = some v := (by rw [Lib.cell_of_heap hh1]; rfl))
    | (at_builtin; refine wpList_append_own _ rfl _ _ 22 rfl base 5 i0 (.int .u8 0) 1 1 Tryd.underlying22 hi hz0 hz1 hz2 rfl (by decide) _ _ _ rfl ((HO.out w1 hf1).alloc _) ⟨w1.heap.size, 0, none⟩ 1 1 [_] rfl rfl (cells_new _ _ _ _ rfl) (by simp [Value.oneCell']) (by simp only [maxLen]; omega) (by omega) (by have := HS1.out; simp; omega) ?_; intro v' w2 hown2 hgrow2 hnil2; obtain ⟨A2, cp2, rfl⟩ := own_slice hown2; have hs1 := HS1.out; have hh2 : w2.heap[b]? = some (.cells #[.pointer (some ⟨b, 0, none⟩), v] 58 (0, 0)) := (by rw [hgrow2.block b (by simp; omega) (fun e => by have := hbo b e.symm; omega), Lib.alloc_old w1 _ b (by omega)]; exact hh1); have c2 : w2.cell? ⟨b, 1, none⟩ = some v := (by rw [Lib.cell_of_heap hh2]; rfl); have f2 : w2.frozen? ⟨b, 1, none⟩ = false := Lib.frozen_of_heap hh2 1; clear hs1))
  go_ret
  have hne : ∀ k, (Value.slice A2 (xs.length + 1) cp2).ownBlock = some k → k ≠ b := fun k hk => by have := own_base hown2 k hk; omega
  refine ⟨rfl, _, heap_setCell_same w2 b 1 _ 58 _ hh2, ?_, (Fr.grown (row := v.ownBlock) ⟨hf1.1, hf1.2.1, hf1.2.2.1, hf1.2.2.2.1, fun k hk hb _ => hf1.2.2.2.2 k hk hb (by simp)⟩ hgrow2).set _⟩
  rw [nums_append, List.length_append]
  exact own_move hown2 (fun k hk => Below.heap_setCell _ _ _ k (hne k hk))
/-- The key of the bytes that are left; does a great letter stand next? -/
def ky : Bool → List Int → List Int
  | _, [] => []
  | up, c :: r => if c = 95 then ky true r else (if up = true ∧ 97 ≤ c ∧ c ≤ 122 then c - 32 else c) :: ky false r
def text_Key.f (s : ByteArray) : Option ByteArray := if s.size ≤ 1099511627776 then some (strOfNums (ky false (bytesOf s))) else none
theorem ky_next (l : List Int) (i : Nat) (up : Bool) (h : i < l.length) : ky up (l.drop i) = if l.getD i 0 = 95 then ky true (l.drop (i + 1)) else (if up = true ∧ 97 ≤ l.getD i 0 ∧ l.getD i 0 ≤ 122 then l.getD i 0 - 32 else l.getD i 0) :: ky false (l.drop (i + 1)) := by
  rw [List.drop_eq_getElem_cons h, ky, List.getD_eq_getElem?_getD, List.getElem?_eq_getElem h]
  rfl
theorem bytesWorld_belowK (W : World) (e : TypeId) (s : ByteArray) (B : Nat) (h : B ≤ W.heap.size) : Below B W (Lib.bytesWorld W e s) :=
  ⟨rfl, rfl, rfl, by rw [Lib.bytesWorld_size]; omega, fun k hk => Lib.bytesWorld_at_old W e s k (by omega)⟩
abbrev KRel (w wr : World) (W1 : World) (s : ByteArray) (u x : Value) : Prop := ∃ (i : Nat) (up : Bool) (p v : Value) (out : List Int), x = .int .i64 i ∧ u = .bool up ∧ i ≤ s.size ∧ Hid (ky false (bytesOf s) = out ++ ky up ((bytesOf s).drop i)) ∧ out.length ≤ i ∧ isBy out = true ∧
  Hid (wr.heap[w.heap.size]? = some (.cells #[p, v] 58 (0, 0))) ∧ Hid (p = .pointer none ∨ p = .pointer (some ⟨w.heap.size, 0, none⟩)) ∧ Hid (wr.ownsRow (w.heap.size + 2) 5 1 v out.length (nums .u8 out)) ∧ Hid (wr.heap[w.heap.size + 1]? = (Lib.bytesWorld W1 5 s).heap[w.heap.size + 1]?) ∧ Hid (Below w.heap.size w wr) ∧ Hid (w.heap.size + 2 ≤ wr.heap.size)
theorem key_round {w wr w2 W1 : World} {s : ByteArray} {i : Nat} {v v' : Value} {out : List Int} {c : Int} (hsz : Hid (w.heap.size + 2 ≤ wr.heap.size)) (hB : Hid (Below w.heap.size w wr)) (hrow : Hid (wr.ownsRow (w.heap.size + 2) 5 1 v out.length (nums .u8 out)))
    (hcv : Hid (wr.heap[w.heap.size + 1]? = (Lib.bytesWorld W1 5 s).heap[w.heap.size + 1]?))
    (hb2 : w2.heap[w.heap.size]? = some (.cells #[.pointer (some ⟨w.heap.size, 0, none⟩), v'] 58 (0, 0))) (ho2 : w2.ownsRow (w.heap.size + 2) 5 1 v' (out ++ [c]).length (nums .u8 (out ++ [c]))) (hf2 : Fr w.heap.size v.ownBlock wr w2)
    (hi : i + 1 ≤ s.size) (hlt : i < s.size) (hob : isBy out = true) (hol : out.length ≤ i) (b0 : 0 ≤ c) (b1 : c ≤ 255) (hk : ky false (bytesOf s) = out ++ c :: ky false ((bytesOf s).drop (i + 1))) :
    KRel w w2 W1 s (.bool false) (.int .i64 ((i : Int) + 1)) := by
  have hbo := own_base hrow.out
  have hs := hsz.out
  have hB' := hB.out
  obtain ⟨f1, f2, f3, f4, f5⟩ := hf2
  refine ⟨i + 1, false, _, v', out ++ [c], by simp, rfl, hi, hid (by rw [hk, List.append_assoc]; rfl), by simp; omega, ?_, hid hb2, hid (.inr rfl), hid ho2, hid ?_, hid ⟨f1.trans hB'.os, f2.trans hB'.tape, f3.trans hB'.output, Nat.le_trans hB'.size f4, fun k hk => ?_⟩, hid (by omega)⟩
  · simp only [isBy, List.all_append, Bool.and_eq_true]
    exact ⟨hob, by simp [b0, b1]⟩
  · exact (f5 _ (by omega) (by omega) (fun e => by have := hbo _ e.symm; omega)).trans hcv.out
  · exact (f5 k (by omega) (by omega) (fun e => by have := hbo _ e.symm; omega)).trans (hB'.block k hk)
theorem byteCells_of {l : List Int} (h : isBy l = true) : Lib.byteCells (l.map fun x => UInt8.ofNat x.toNat) = nums .u8 l := by
  simp only [Lib.byteCells, nums, List.map_map]
  refine List.map_congr_left fun x hx => ?_
  have := List.all_eq_true.1 h x hx
  simp only [Bool.and_eq_true, decide_eq_true_eq] at this
  simp only [Function.comp]
  have h2 : (UInt8.ofNat x.toNat).toNat = x.toNat := by rw [UInt8.toNat_ofNat']; omega
  rw [h2, Int.toNat_of_nonneg this.1]
set_option maxRecDepth 100000 in
set_option maxHeartbeats 4000000 in
theorem key_walk (s : ByteArray) (w : World) (hl : s.size ≤ 1099511627776) :
    Calls Tryd.prog 26 #[.string s] w fun e w' => e = .returned (.string (strOfNums (ky false (bytesOf s)))) ∧ Below w.heap.size w w' := by
  have hconv : ∀ W, (convert 9 22 (.string s)).run Tryd.prog W = .ok (.slice (some ⟨W.heap.size, 0, none⟩) s.size (grownCap W s.size 0 5)) (Lib.bytesWorld W 5 s) := fun W => Lib.run_convert_string_bytes (e := 5) W _ _ _ Tryd.underlying9 Tryd.underlying22 Tryd.underlying5
  go_enter Tryd.func26, Tryd.ntmps26
  go_wp2
  obtain ⟨W1, hW1⟩ : ∃ W1, W1 = w.alloc (.cells #[.pointer none, .slice none 0 0] 58) := ⟨_, rfl⟩
  have hs1 : W1.heap.size = w.heap.size + 1 := by rw [hW1]; simp
  have HS1 := hid hs1
  clear hs1
  go_loopw [4, 10] (fun u x wr => KRel w wr W1 s u x) (fun _ x _ => s.size - (intOf x).toNat)
  case atStart =>
    have hb1 := Lib.bytesWorld_at_old W1 5 s w.heap.size (by have := HS1.out; omega)
    refine ⟨0, false, .pointer none, .slice none 0 0, [], rfl, rfl, Nat.zero_le _, hid (by simp), by simp, rfl, ?_, hid (.inl rfl), hid (World.ownsRow_nil _ _ _ _), ?_, ?_, ?_⟩
    · rw [← hW1]
      refine hid (hb1.trans ?_)
      rw [hW1]
      exact heap_alloc_new w _
    · rw [← hW1]
      exact hid rfl
    · rw [← hW1]
      have h1 : Below w.heap.size w W1 := by rw [hW1]; exact (Below.refl _ _).alloc (Nat.le_refl _) _
      exact hid (h1.trans (bytesWorld_belowK W1 5 s w.heap.size (by have := HS1.out; omega)))
    · rw [← hW1, Lib.bytesWorld_size]
      have := HS1.out
      exact hid (by omega)
  case round =>
    obtain ⟨i, up, p, v, out, rfl, rfl, his, hky, hol, hob, hbb, hp, hrow, hcv, hB, hsz⟩ := hrel
    by_cases hlt : i < s.size
    · obtain ⟨c, hcd⟩ : ∃ c, (bytesOf s).getD i 0 = c := ⟨_, rfl⟩
      have hcell : wr.cell? ⟨w.heap.size + 1, i, none⟩ = some (.int .u8 c) := by
        have h2 := Lib.bytesWorld_cell W1 5 s i hlt
        rw [HS1.out] at h2
        simp only [World.cell?] at h2 ⊢
        rw [hcv.out, h2, ← hcd]
        have hj2 : i < s.data.toList.length := by rw [data_length]; omega
        simp only [bytesOf, List.getD_eq_getElem?_getD, List.getElem?_map, List.getElem?_eq_getElem hj2, Option.map_some, Option.getD_some]
      have hn := ky_next (bytesOf s) i up (by rw [bytesOf_length]; exact hlt)
      rw [hcd] at hn
      obtain ⟨b0, b1⟩ : 0 ≤ c ∧ c ≤ 255 := by
        rw [← hcd]
        have hj2 : i < s.data.toList.length := by rw [data_length]; omega
        simp only [bytesOf, List.getD_eq_getElem?_getD, List.getElem?_map, List.getElem?_eq_getElem hj2, Option.map_some, Option.getD_some]
        have := (s.data.toList[i]).toNat_lt
        omega
      have HN := hid hn
      clear hn
      by_cases h95 : c = 95
      · go_wp2
        refine ⟨⟨i + 1, true, p, v, out, by simp, rfl, by omega, hid ?_, by omega, hob, hbb, hp, hrow, hcv, hB, hsz⟩, by simp [intOf]; omega⟩
        rw [hky.out, HN.out, if_pos h95]
      · have hw : ∀ c' : Int, 0 ≤ c' → c' ≤ 255 → Calls Tryd.prog 49 #[.pointer (some ⟨w.heap.size, 0, none⟩), .int .u8 c'] wr fun e w' => e = .returned .nilIface ∧ ∃ v', w'.heap[w.heap.size]? = some (.cells #[.pointer (some ⟨w.heap.size, 0, none⟩), v'] 58 (0, 0)) ∧ w'.ownsRow (w.heap.size + 2) 5 1 v' (out ++ [c']).length (nums .u8 (out ++ [c'])) ∧ Fr w.heap.size v.ownBlock wr w' :=
          fun c' _ _ => write_byte w.heap.size (w.heap.size + 2) p v out c' wr (by omega) hsz.out hp.out hbb.out hrow.out (by omega)
        have HW := hid hw
        clear hw
        by_cases hup : up = true ∧ 97 ≤ c ∧ c ≤ 122
        · obtain ⟨rfl, h97, h122⟩ := hup
          go_wp2_with (go_at_call 49; refine (HW.out _ (by omega) (by omega)).mono ?_; rintro e w2 ⟨rfl, v', hb2, ho2, hf2⟩)
          refine ⟨key_round hsz hB hrow hcv hb2 ho2 hf2 (by omega) hlt hob hol (by omega) (by omega) ?_, by simp [intOf]; omega⟩
          rw [hky.out, HN.out, if_neg h95, if_pos (by simp [h97, h122])]
        · have fin : ∀ v' w2, w2.heap[w.heap.size]? = some (.cells #[.pointer (some ⟨w.heap.size, 0, none⟩), v'] 58 (0, 0)) → w2.ownsRow (w.heap.size + 2) 5 1 v' (out ++ [c]).length (nums .u8 (out ++ [c])) → Fr w.heap.size v.ownBlock wr w2 →
              KRel w w2 W1 s (.bool false) (.int .i64 ((i : Int) + 1)) ∧ s.size - (intOf (.int .i64 ((i : Int) + 1))).toNat < s.size - (intOf (.int .i64 (i : Int))).toNat := fun v' w2 hb2 ho2 hf2 =>
            ⟨key_round hsz hB hrow hcv hb2 ho2 hf2 (by omega) hlt hob hol b0 b1 (by rw [hky.out, HN.out, if_neg h95, if_neg hup]), by simp [intOf]; omega⟩
          have FIN := hid fin
          clear fin
          rcases up with _ | _
          · go_wp2_with (go_at_call 49; refine (HW.out _ (by omega) (by omega)).mono ?_; rintro e w2 ⟨rfl, v', hb2, ho2, hf2⟩)
            exact FIN.out v' w2 hb2 ho2 hf2
          · by_cases h97 : 97 ≤ c
            · have h122 : ¬ c ≤ 122 := fun h => hup ⟨rfl, h97, h⟩
              go_wp2_with (go_at_call 49; refine (HW.out _ (by omega) (by omega)).mono ?_; rintro e w2 ⟨rfl, v', hb2, ho2, hf2⟩)
              exact FIN.out v' w2 hb2 ho2 hf2
            · go_wp2_with (go_at_call 49; refine (HW.out _ (by omega) (by omega)).mono ?_; rintro e w2 ⟨rfl, v', hb2, ho2, hf2⟩)
              exact FIN.out v' w2 hb2 ho2 hf2
    · have hie : i = s.size := by omega
      subst hie
      have hcells := byteCells_of hob
      have hne : v.ownBlock ≠ some w.heap.size := fun e => by have := own_base hrow.out _ e; omega
      have hown : wr.ownsRow w.heap.size 5 1 v (Lib.byteCells (out.map fun x => UInt8.ofNat x.toNat)).length (Lib.byteCells (out.map fun x => UInt8.ofNat x.toNat)) := by
        rw [hcells, nums_length]
        exact own_weaken hrow.out (by omega)
      have hIs : Lib.IsBuilder 58 5 w.heap.size w.heap.size (Lib.byteCells (out.map fun x => UInt8.ofNat x.toNat)) wr := by
        rcases hp.out with h | h
        · have hb1 := hbb.out
          rw [h] at hb1
          exact .inl ⟨Nat.le_refl _, v, hb1, hown, hne⟩
        · have hb1 := hbb.out
          rw [h] at hb1
          exact .inr ⟨Nat.le_refl _, v, hb1, hown, hne⟩
      have HI := hid hIs
      clear hIs
      have hfin : ky false (bytesOf s) = out := by rw [hky.out, List.drop_of_length_le (by rw [bytesOf_length]; exact Nat.le_refl _)]; simp [ky]
      go_wp2_with (go_at_call 50; refine (Tryd.Builder_String_any w.heap.size w.heap.size _ wr HI.out hB.out.size).mono ?_; rintro e w2 ⟨rfl, hb2⟩)
      go_ret
      exact ⟨by rw [hfin]; rfl, hB.out.trans hb2⟩
theorem text_Key.calls (a0 : ByteArray) (r : ByteArray) (w : World) (h : text_Key.f a0 = some r) :
    Calls Tryd.prog 26 #[.string a0] w fun e w' => e = .returned (.string r) ∧ Below w.heap.size w w' := by
  unfold text_Key.f at h
  split at h
  · rename_i hh
    obtain rfl := Option.some.inj h
    exact key_walk a0 w hh
  · cases h
end Go.Proofs.YtaklkcnohbbfoaaDoor.Hand
