/-
  text.Runes: the walk.
-/
import Derived.Test.YtaklkcnohbbfoaaDoorHandMap
import Derived.Test.YtaklkcnohbbfoaaDoorHandTabs
import Derived.Test.YtaklkcnohbbfoaaDoorShelf7
import Derived.Lib.OthersKept
import Derived.Lib.TrimUEq
import Derived.Lib.MapLaws
namespace Go.Proofs.YtaklkcnohbbfoaaDoor.Hand
open Go.RowKit Go.Lib Go.Proofs.YtaklkcnohbbfoaaDoorW.PrintWords
set_option linter.unusedVariables false
set_option linter.unusedSimpArgs false

def u8s (l : List Int) : List UInt8 := l.map fun x => UInt8.ofNat x.toNat
def rnsL : Nat → List UInt8 → Nat → List Int → List Int × Int × Int
  | 0, _, _, acc => (acc, 0, 0)
  | f + 1, u, pos, acc => if u = [] then (acc, 0, 0) else if (decodeL u).1 = 65533 ∧ (decodeL u).2 = 1 then ([], (pos : Int), 20) else rnsL f (u.drop (decodeL u).2) (pos + (decodeL u).2) (acc ++ [((decodeL u).1 : Int)])
def text_Runes.f (l : List Int) : Option (List Int × Int × Int) := if l.length ≤ 1073741824 ∧ isBy l = true then some (rnsL (l.length + 1) (u8s l) 0 []) else none
theorem hinfo3 : (Tryd.prog.info? 3).map (fun i => (i.zero, i.size, i.bytes)) = some (some (.int .i64 0), 1, 8) := by kernel_rfl
theorem u8s_data (l : List Int) : (strOfNums l).data.toList = u8s l := rfl
theorem str_size (l : List Int) : (strOfNums l).size = l.length := by show (List.toArray _).size = _; simp
theorem str_get {l : List Int} (h : isBy l = true) (j : Nat) (hj : j < l.length) : (((strOfNums l).get! j).toNat : Int) = l.getD j 0 := by
  obtain ⟨h0, h1⟩ := isBy_at h j hj
  have e : (strOfNums l).get! j = UInt8.ofNat (l.getD j 0).toNat := by
    show (List.toArray _)[j]! = _
    rw [getElem!_pos _ j (by simpa using hj)]
    simp [List.getD_eq_getElem?_getD, List.getElem?_eq_getElem hj]
  rw [e, UInt8.toNat_ofNat']
  omega
theorem decode_str (l : List Int) (pos : Nat) : Utf8.decode (strOfNums l) pos = decodeL ((u8s l).drop pos) := by rw [← decodeL_drop]; rfl
theorem decodeGo_str {l : List Int} (h : l ≠ []) : decodeGo (strOfNums l) = decodeL (u8s l) := by
  unfold decodeGo
  rw [if_neg (by rw [str_size]; exact fun e => h (List.eq_nil_of_length_eq_zero e)), decode_str, List.drop_zero]
theorem width_pos {u : List UInt8} (h : u ≠ []) : 1 ≤ (decodeL u).2 := by
  rw [decodeL_N]
  unfold decodeN
  have hl : u.length ≠ 0 := fun e => h (List.eq_nil_of_length_eq_zero e)
  repeat' split
  all_goals simp_all
abbrev RRel (w wr : World) (l0 : List Int) (R : List Int × Int × Int) (v : Value) : Prop := ∃ (pos f : Nat) (acc : List Int), pos ≤ l0.length ∧ Hid (wr.heap[w.heap.size]? = some (.stringIter (strOfNums l0) pos)) ∧ Hid (wr.ownsRow (w.heap.size + 1) 3 1 v acc.length (nums .i64 acc)) ∧ Hid (Below w.heap.size w wr) ∧
  Hid (rnsL f ((u8s l0).drop pos) pos acc = R) ∧ l0.length < pos + f ∧ acc.length ≤ pos
theorem at_drop {l0 : List Int} {b off pos : Nat} {W : World} (hB : isBy l0 = true) (hc : ∀ j, j < l0.length → W.cell? ⟨b, off + j, none⟩ = some (.int .u8 (l0.getD j 0))) :
    ∀ j, j < (strOfNums (l0.drop pos)).size → W.cell? ⟨b, off + pos + j, none⟩ = some (.int .u8 (((strOfNums (l0.drop pos)).get! j).toNat : Nat)) := by
  intro j hj
  rw [str_size, List.length_drop] at hj
  have h1 : isBy (l0.drop pos) = true := List.all_eq_true.2 fun x hx => List.all_eq_true.1 hB x (List.mem_of_mem_drop hx)
  rw [str_get h1 j (by rw [List.length_drop]; exact hj), Nat.add_assoc, hc (pos + j) (by omega)]
  simp [List.getD_eq_getElem?_getD, List.getElem?_drop]
theorem own_belowK {w w1 : World} {base n size : Nat} {e : TypeId} {v : Value} {xs : List Value} (h : w.ownsRow base e size v n xs) (hb : Below w.heap.size w w1) : w1.ownsRow base e size v n xs := own_move h (fun k hk => hb.block k (own_lt h k hk))
theorem runes_round {w wr W2 W3 w4 : World} {l0 acc : List Int} {R : List Int × Int × Int} {pos f : Nat} {d : Nat × Nat} {x : Int} {v v' : Value} {o : Obj} (hit2 : Hid (W2.heap[w.heap.size]? = some (.stringIter (strOfNums l0) (pos + d.2)))) (hB2 : Hid (Below w.heap.size w W2)) (hrow2 : W2.ownsRow (w.heap.size + 1) 3 1 v acc.length (nums .i64 acc))
    (hb3 : Below W2.heap.size W2 W3) (hg : (W3.alloc o).grownBy w4 v.ownBlock) (ho : w4.ownsRow (w.heap.size + 1) 3 1 v' (acc.length + 1) (nums .i64 acc ++ [.int .i64 x])) (hx : x = d.1)
    (hr : rnsL f (((u8s l0).drop pos).drop d.2) (pos + d.2) (acc ++ [(d.1 : Int)]) = R) (hip : Hid (wr.iterPos w.heap.size = pos)) (hdl : pos + d.2 ≤ l0.length) (hwd : 1 ≤ d.2) (hfu : l0.length < pos + (f + 1)) (hal : acc.length ≤ pos) (hp : pos < l0.length) :
    RRel w w4 l0 R v' ∧ l0.length - w4.iterPos w.heap.size < l0.length - wr.iterPos w.heap.size := by
  have hbo := own_base hrow2
  have hlt2 : w.heap.size < W2.heap.size := (Array.getElem?_eq_some_iff.1 hit2.out).1
  have hs3 := hb3.size
  have hit4 : w4.heap[w.heap.size]? = some (.stringIter (strOfNums l0) (pos + d.2)) := by
    rw [hg.block _ (by simp; omega) (fun e => by have := hbo _ e.symm; omega), Lib.alloc_old W3 _ _ (by omega), hb3.block _ hlt2]
    exact hit2.out
  have hB3 := hB2.out.trans (hb3.mono hB2.out.size)
  refine ⟨⟨pos + d.2, f, acc ++ [(d.1 : Int)], hdl, hid hit4, hid ?_, hid ((hB3.alloc hB3.size o).grown hg (by simp; have := hB3.size; omega) (fun k hk => by have := hbo k hk; omega)), hid ?_, by omega, by simp; omega⟩, ?_⟩
  · rw [nums_append, List.length_append]
    rw [hx] at ho
    exact ho
  · rw [← hr, List.drop_drop]
  · rw [hip.out]
    have : w4.iterPos w.heap.size = pos + d.2 := by simp [World.iterPos, hit4]
    omega
set_option maxRecDepth 1000000 in
set_option maxHeartbeats 4000000 in
theorem runes_walk (b off c0 : Nat) (l0 : List Int) (w : World) (hc : ∀ j, j < l0.length → w.cell? ⟨b, off + j, none⟩ = some (.int .u8 (l0.getD j 0))) (hb : b < w.heap.size) (hl : l0.length ≤ 1073741824) (hBy : isBy l0 = true) (hc0 : l0.length ≤ c0) (HT_ : Tabs w)
    (R : List Int × Int × Int) (hR : rnsL (l0.length + 1) (u8s l0) 0 [] = R) :
    Calls Tryd.prog 13 #[.slice (some ⟨b, off, none⟩) l0.length c0] w fun e w' => ∃ v : Value, e = .returned (.tuple #[v, .int .i64 R.2.1, .int .i64 R.2.2]) ∧ w'.ownsRow w.heap.size 3 1 v R.1.length (nums .i64 R.1) ∧ Below w.heap.size w w' := by
  obtain ⟨i0, hi, hz0, hz1, hz2⟩ := info_parts hinfo3
  have hconv : ∀ W : World, Below w.heap.size w W → (convert 22 9 (.slice (some ⟨b, off, none⟩) l0.length c0)).run Tryd.prog W = .ok (.string (strOfNums l0)) W := fun W hW =>
    run_convert_bytes_arg W 22 5 Tryd.underlying22 Tryd.underlying5 b off l0.length c0 l0 rfl (fun i hi => (hW.cell hb).trans (hc i hi)) 9 Tryd.underlying9
  have hcv := hconv w (Below.refl _ _)
  have HC := hid hc
  have HR := hid hR
  clear hc hR hconv
  go_enter Tryd.func13, Tryd.ntmps13
  go_wp2
  go_loopw [2] (fun v wr => RRel w wr l0 R v) (fun _ wr => l0.length - wr.iterPos w.heap.size)
  case atStart =>
    refine ⟨0, l0.length + 1, [], Nat.zero_le _, hid ?_, hid (World.ownsRow_nil _ _ _ _), hid ?_, hid (by rw [List.drop_zero]; exact HR.out), by omega, by simp⟩
    · have := World.iter_heap w (strOfNums l0) 0
      simpa using this
    · exact (Below.refl _ w).alloc (Nat.le_refl _) _
  case round =>
    obtain ⟨pos, f, acc, hpl, hit, hrow, hB, hrn, hfu, hal⟩ := hrel
    have hsz : w.heap.size < wr.heap.size := (Array.getElem?_eq_some_iff.1 hit.out).1
    obtain ⟨f, rfl⟩ : ∃ q, f = q + 1 := ⟨f - 1, by omega⟩
    by_cases hp : pos < l0.length
    · have hp' : pos < (strOfNums l0).size := by rw [str_size]; exact hp
      have hne : (u8s l0).drop pos ≠ [] := fun e => by
        have := congrArg List.length e
        simp [u8s] at this
        omega
      obtain ⟨d, hd⟩ : ∃ d, d = decodeL ((u8s l0).drop pos) := ⟨_, rfl⟩
      have hds : Utf8.decode (strOfNums l0) pos = d := by rw [decode_str, hd]
      have hwd : 1 ≤ d.2 := by rw [hd]; exact width_pos hne
      have hdl : pos + d.2 ≤ l0.length := by
        have := decodeL_le _ hne
        rw [← hd] at this
        simp [u8s] at this
        omega
      have hd1 : d.1 ≤ 2147483647 := by have := decode_le (strOfNums l0) pos; rwa [hds] at this
      have hnx : ∀ ty, (Instr.next (.pointer (some ⟨w.heap.size, 0, none⟩)) true ty).run Tryd.prog wr = .ok (.tuple #[.bool true, .int .i64 pos, .int .i32 d.1]) (wr.iterAt w.heap.size (strOfNums l0) (pos + d.2)) := fun ty => by
        have := Lib.run_next_any_at (P := Tryd.prog) wr w.heap.size (strOfNums l0) pos ty hit.out hp'
        rwa [hds] at this
      obtain ⟨W2, hW2⟩ : ∃ W2, W2 = wr.iterAt w.heap.size (strOfNums l0) (pos + d.2) := ⟨_, rfl⟩
      rw [← hW2] at hnx
      have hit2 := hid (show W2.heap[w.heap.size]? = some (.stringIter (strOfNums l0) (pos + d.2)) by rw [hW2]; exact Lib.iterAt_heap wr w.heap.size _ pos _ hit.out)
      have hB2 := hid (show Below w.heap.size w W2 by rw [hW2]; exact Lib.below_iterAt hB.out (Nat.le_refl _) _ _)
      have hrow2 := hid (own_move (w1 := W2) hrow.out (fun k hk => by rw [hW2]; exact Lib.iterAt_other wr _ k _ _ (by have := own_base hrow.out k hk; omega)))
      have hs2 : Hid (W2.heap.size = wr.heap.size) := hid (by rw [hW2, Lib.iterAt_size])
      have hrn2 := hrn.out
      simp only [rnsL] at hrn2
      rw [if_neg hne, ← hd] at hrn2
      have HRN := hid hrn2
      have hip : Hid (wr.iterPos w.heap.size = pos) := hid (by simp [World.iterPos, hit.out])
      clear hW2 hrn hrn2 hds hit hB hrow hp'
      have hdec : Calls Tryd.prog 34 #[.slice (some ⟨b, off + pos, none⟩) (l0.length - pos) (c0 - pos)] W2 fun e w' => e = .returned (.tuple #[.int .i32 d.1, .int .i64 d.2]) ∧ Below W2.heap.size W2 w' := by
        have hlp : l0.drop pos ≠ [] := fun e => by
          have := congrArg List.length e
          simp at this
          omega
        have := Tryd.utf8_DecodeRune (strOfNums (l0.drop pos)) b (off + pos) (c0 - pos) W2 (HT_.below hB2.out).utf (at_drop hBy (fun j hj => (hB2.out.cell hb).trans (HC.out j hj)))
        rw [decodeGo_str hlp, str_size, List.length_drop] at this
        have e : u8s (l0.drop pos) = (u8s l0).drop pos := by simp [u8s, List.map_drop]
        rw [e, ← hd] at this
        exact this
      have HD := hid hdec
      clear hdec hd
      by_cases hbad : d.1 = 65533
      · by_cases hw1 : d.2 = 1
        · have hr := HRN.out
          rw [if_pos ⟨hbad, hw1⟩] at hr
          subst hr
          go_wp2_with (go_at_call 34; refine HD.out.mono ?_; rintro e w3 ⟨rfl, hb3⟩)
          go_ret3
          exact ⟨_, rfl, World.ownsRow_nil _ _ _ _, hB2.out.trans (hb3.mono hB2.out.size)⟩
        · have hr := HRN.out
          rw [if_neg (fun h => hw1 h.2)] at hr
          go_wp2_with (first
            | (go_at_call 34; refine HD.out.mono ?_; rintro e w3 ⟨rfl, hb3⟩)
            | (at_builtin; refine wpList_append_own _ rfl _ _ 24 rfl (w.heap.size + 1) 3 i0 (.int .i64 0) 1 8 Tryd.underlying24 hi hz0 hz1 hz2 rfl (by decide) _ _ _ rfl ((own_belowK hrow2.out hb3).alloc _) ⟨w3.heap.size, 0, none⟩ 1 1 [_] rfl rfl (cells_new _ _ _ _ rfl) (by simp [Value.oneCell']) (by simp only [maxLen]; omega) (by omega) (by have := hb3.size; have := hs2.out; simp; omega) ?_; intro v' w4 hown4 hgrow4 hnil4))
          exact runes_round hit2 hB2 hrow2.out hb3 hgrow4 hown4 (by rw [hbad]; rfl) hr hip hdl hwd hfu hal hp
      · have hr := HRN.out
        rw [if_neg (fun h => hbad h.1)] at hr
        go_wp2_with (first
          | (at_builtin; refine wpList_append_own _ rfl _ _ 24 rfl (w.heap.size + 1) 3 i0 (.int .i64 0) 1 8 Tryd.underlying24 hi hz0 hz1 hz2 rfl (by decide) _ _ _ rfl (hrow2.out.alloc _) ⟨W2.heap.size, 0, none⟩ 1 1 [_] rfl rfl (cells_new _ _ _ _ rfl) (by simp [Value.oneCell']) (by simp only [maxLen]; omega) (by omega) (by have := hs2.out; simp; omega) ?_; intro v' w4 hown4 hgrow4 hnil4))
        exact runes_round hit2 hB2 hrow2.out (Below.refl _ _) hgrow4 hown4 rfl hr hip hdl hwd hfu hal hp
    · have hend : (u8s l0).drop pos = [] := List.drop_of_length_le (by simp [u8s]; omega)
      have hnx : ∀ ty, (Instr.next (.pointer (some ⟨w.heap.size, 0, none⟩)) true ty).run Tryd.prog wr = .ok (.tuple #[.bool false]) wr := fun ty => Lib.run_next_end_at wr w.heap.size (strOfNums l0) pos ty hit.out (by rw [str_size]; exact hp)
      have hr := hrn.out
      simp only [rnsL] at hr
      rw [if_pos hend] at hr
      subst hr
      go_wp2
      go_ret3
      exact ⟨_, rfl, own_weaken hrow.out (by omega), hB.out⟩
theorem conv_empty (A : Option Addr) (c : Nat) (W : World) : (convert 22 9 (.slice A 0 c)).run Tryd.prog W = .ok (.string (strOfNums [])) W := by
  rcases A with _ | ad
  · exact run_convert_bytes_nil (P := Tryd.prog) W 22 5 Tryd.underlying22 Tryd.underlying5 0 c 9 Tryd.underlying9
  · have hl : (loadCells ad 0).run Tryd.prog W = .ok (([] : List Int).map (Value.int .u8)).toArray W := by
      have := run_loadCells_list (P := Tryd.prog) W ad [] (fun j v hj => by simp at hj)
      simpa using this
    rw [run_convert_bytes_string W 22 9 5 _ 0 c Tryd.underlying22 Tryd.underlying5 Tryd.underlying9, run_bytesToString W _ 0 c [] hl, foldl_push_bytes]
    rfl
set_option maxRecDepth 1000000 in
set_option maxHeartbeats 4000000 in
theorem runes_none (A : Option Addr) (c0 : Nat) (w : World) : Calls Tryd.prog 13 #[.slice A 0 c0] w fun e w' => ∃ v : Value, e = .returned (.tuple #[v, .int .i64 0, .int .i64 0]) ∧ w'.ownsRow w.heap.size 3 1 v 0 (nums .i64 []) ∧ Below w.heap.size w w' := by
  have hcv := conv_empty A c0 w
  go_enter Tryd.func13, Tryd.ntmps13
  go_wp2
  go_loopw [2] (fun v wr => v = .slice none 0 0 ∧ wr.heap[w.heap.size]? = some (.stringIter (strOfNums []) 0) ∧ Below w.heap.size w wr) (fun _ wr => 0)
  case atStart =>
    refine ⟨rfl, ?_, (Below.refl _ w).alloc (Nat.le_refl _) _⟩
    have := World.iter_heap w (strOfNums []) 0
    simpa using this
  case round =>
    obtain ⟨rfl, hit, hB⟩ := hrel
    have hnx : ∀ ty, (Instr.next (.pointer (some ⟨w.heap.size, 0, none⟩)) true ty).run Tryd.prog wr = .ok (.tuple #[.bool false]) wr := fun ty => Lib.run_next_end_at wr w.heap.size (strOfNums []) 0 ty hit (by rw [str_size]; simp)
    go_wp2
    go_ret3
    exact ⟨_, rfl, World.ownsRow_nil _ _ _ _, hB⟩
theorem text_Runes.calls (A0 : Option Addr) (c0 : Nat) (l0 : List Int) (r1 : List Int) (r2 r3 : Int) (w : World) (hr0 : Kd.C (Kd.int .u8) w A0 l0.length l0) (hc0 : l0.length ≤ c0) (h : text_Runes.f l0 = some (r1, r2, r3)) (HT_ : Tabs w) :
    Calls Tryd.prog 13 #[.slice A0 l0.length c0] w fun e w' => ∃ v0_ : Value, e = .returned (.tuple #[v0_, .int .i64 r2, .int .i64 r3]) ∧ Kd.R (Kd.int .i64) 3 w' w.heap.size (fun _ => True) v0_ r1 ∧ Below w.heap.size w w' := by
  unfold text_Runes.f at h
  split at h
  · rename_i hh
    have hR := Option.some.inj h
    have fin : ∀ {e : Ending} {w' : World}, (∃ v : Value, e = .returned (.tuple #[v, .int .i64 r2, .int .i64 r3]) ∧ w'.ownsRow w.heap.size 3 1 v r1.length (nums .i64 r1) ∧ Below w.heap.size w w') →
        ∃ v0_ : Value, e = .returned (.tuple #[v0_, .int .i64 r2, .int .i64 r3]) ∧ Kd.R (Kd.int .i64) 3 w' w.heap.size (fun _ => True) v0_ r1 ∧ Below w.heap.size w w' := by
      rintro e w' ⟨v, he, ho, hB⟩
      exact ⟨v, he, Kd.R_of_own (enc := Value.int .i64) (h1 := fun _ => rfl) ho (fun _ _ => trivial), hB⟩
    rcases l0 with _ | ⟨x, l0⟩
    · obtain ⟨rfl, rfl, rfl⟩ : ([] : List Int) = r1 ∧ (0 : Int) = r2 ∧ (0 : Int) = r3 := by
        simp [rnsL, u8s] at hR
        exact ⟨hR.1.symm, hR.2⟩
      exact (runes_none A0 c0 w).mono fun e w' q => fin q
    · obtain ⟨ad, rfl, hcc⟩ := hr0.2.2 (by simp)
      have hcells := cells_of_C hr0
      have h0 := hcells ad rfl 0 (.int .u8 x) (by simp [nums])
      obtain ⟨b, off, sp⟩ := ad
      have hsp : sp = none := by
        cases sp with
        | none => rfl
        | some q => simp [World.cell?, Addr.add] at h0; split at h0 <;> simp at h0
      subst hsp
      have hb : b < w.heap.size := by have := cell_lt h0; simpa [Addr.add] using this
      have hc : ∀ j, j < (x :: l0).length → w.cell? ⟨b, off + j, none⟩ = some (.int .u8 ((x :: l0).getD j 0)) := by
        intro j hj
        have := hcells ⟨b, off, none⟩ rfl j (.int .u8 ((x :: l0).getD j 0)) (by
          simp only [nums, List.getElem?_map, List.getElem?_eq_getElem hj, List.getD_eq_getElem?_getD, Option.map_some, Option.getD_some])
        have ha : (⟨b, off, none⟩ : Addr).add j = ⟨b, off + j, none⟩ := by unfold Addr.add; split <;> simp_all
        rwa [ha] at this
      exact (runes_walk b off c0 (x :: l0) w hc hb hh.1 hh.2 hc0 HT_ (r1, r2, r3) hR).mono fun e w' q => fin q
  · cases h
end Go.Proofs.YtaklkcnohbbfoaaDoor.Hand
