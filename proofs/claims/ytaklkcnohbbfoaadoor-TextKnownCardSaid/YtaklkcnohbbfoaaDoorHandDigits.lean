/-
  strconv.ParseUint as digits calls it, and text.digits: the walks.
-/
import Derived.Test.YtaklkcnohbbfoaaDoorHandParse
import Derived.Test.YtaklkcnohbbfoaaDoorHandTabs
import Derived.Test.YtaklkcnohbbfoaaDoorShelf
namespace Go.Proofs.YtaklkcnohbbfoaaDoor.Hand
open Go.RowKit Go.Proofs.YtaklkcnohbbfoaaDoorW.PrintWords Go.Proofs.YtaklkcnohbbfoaaDoorW.PrintMore Go.Proofs.YtaklkcnohbbfoaaDoor.PAll
set_option linter.unusedVariables false
set_option linter.unusedSimpArgs false
attribute [local go_sem] max2_int min2_int max_two min_two max_three min_three max_four min_four
set_option maxRecDepth 100000 in
set_option maxHeartbeats 4000000 in
theorem parse_pub (k : Nat) (s : ByteArray) (base bits v : Int) (e : Option Int) (w : World) (h : strconv_ParseUint.f k s base bits = some (v, e)) (he : e = none ∨ e = some 2) (hs : s.size ≤ 281474976710656) (HT_ : Tabs w) :
    Calls Tryd.prog 64 #[.string s, .int .i64 base, .int .i64 bits] w fun en w' => ∃ ev, en = .returned (.tuple #[.int .u64 v, ev]) ∧ (match e with | none => ev = .nilIface | some _ => ∃ t p, ev = .iface t p) ∧ Below w.heap.size w w' := by
  rcases he with rfl | rfl
  · have hcall := strconv_ParseUint.calls k s base bits v none w h
    go_enter Tryd.func64, Tryd.ntmps64
    go_wp2_with (go_at_call 70; refine hcall.mono ?_; rintro e w1 ⟨rfl, hb⟩; rw [errW_none])
    go_ret2
    exact ⟨_, rfl, rfl, hb⟩
  · have hcall := strconv_ParseUint.calls k s base bits v (some 2) w h
    have hu60 := Tryd.underlying60
    have hu93 := Tryd.underlying93
    go_enter Tryd.func64, Tryd.ntmps64
    go_wp2_with (first
      | (go_at_call 70; refine hcall.mono ?_; rintro e w1 ⟨rfl, hb⟩; obtain ⟨tp, p, herr⟩ := (HT_.below hb).err; rw [errW_some])
      | (go_at_call 71; refine (Tryd.strconv_toError_syntax _ s base bits (.iface tp p) w1 hs herr (Or.inr ⟨_, _, rfl⟩)).mono ?_; rintro e w2 ⟨N, rfl, _, _, hb2⟩))
    go_ret2
    exact ⟨_, rfl, ⟨_, _, rfl⟩, hb.trans (hb2.mono hb.size)⟩

theorem bt_getD (s : ByteArray) (i : Nat) : bt s (i : Int) = (bytesOf s).getD i 0 := by
  unfold bt bytesOf
  by_cases h : i < s.size
  · rw [dif_pos (by simpa using h)]
    have h2 : i < s.data.toList.length := by rw [data_length]; exact h
    simp only [List.getD_eq_getElem?_getD, List.getElem?_map, List.getElem?_eq_getElem h2, Option.map_some, Option.getD_some]
    rfl
  · rw [dif_neg (by simpa using h)]
    have h2 : s.data.toList[i]? = none := List.getElem?_eq_none (by rw [data_length]; omega)
    simp [List.getD_eq_getElem?_getD, List.getElem?_map, h2]
theorem bytesOf_extract (s : ByteArray) (a b : Nat) : bytesOf (s.extract a b) = ((bytesOf s).take b).drop a := by
  simp [bytesOf, ByteArray.data_extract, List.map_take, List.map_drop, Array.toList_extract, List.extract, List.drop_take]
set_option maxRecDepth 100000 in
set_option maxHeartbeats 4000000 in
theorem digits_calls (s : ByteArray) (base : Int) (m : Nat) (w : World) (hbs : base = 8 ∨ base = 16) (hm : m ≤ 8) (hs : s.size ≤ 281474976710656) (HT_ : Tabs w) :
    Calls Tryd.prog 58 #[.string s, .int .i64 base, .int .i64 m] w fun e w' => e = .returned (.tuple #[.int .u64 (digs base m (bytesOf s) 0).1, .int .i64 ((digs base m (bytesOf s) 0).2 : Nat), .string (s.extract (digs base m (bytesOf s) 0).2 s.size)]) ∧ Below w.heap.size w w' := by
  obtain ⟨n, hn⟩ : ∃ n, (digs base m (bytesOf s) 0).2 = n := ⟨_, rfl⟩
  obtain ⟨v, hv⟩ : ∃ v, (digs base m (bytesOf s) 0).1 = v := ⟨_, rfl⟩
  have hbl : (bytesOf s).length = s.size := bytesOf_length s
  have hle := digs_le base m (bytesOf s) 0
  have hin := fun j => digs_in base m (bytesOf s) 0 j
  have hout := digs_out base m (bytesOf s) 0
  have hval := digs_val base m (bytesOf s) 0
  rw [hn] at hle hin hout hval
  rw [hbl] at hle hout
  rw [hn, hv]
  rw [hv] at hval
  clear hn hv
  have hpiece : ∀ i : Nat, i < s.size → (s.extract i (i + 1)).size = 1 ∧ bt (s.extract i (i + 1)) 0 = (bytesOf s).getD i 0 := by
    intro i hi
    have hz : (s.extract i (i + 1)).size = 1 := by rw [ByteArray.size_extract]; omega
    refine ⟨hz, ?_⟩
    have := bt_getD (s.extract i (i + 1)) 0
    rw [bytesOf_extract] at this
    rw [show ((0 : Nat) : Int) = 0 from rfl] at this
    rw [this]
    simp [List.getD_eq_getElem?_getD, List.getElem?_drop, List.getElem?_take]
  have hone : ∀ (W : World) (i : Nat), Below w.heap.size w W → i < s.size → hexV ((bytesOf s).getD i 0) < base → Calls Tryd.prog 64 #[.string (s.extract i (i + 1)), .int .i64 base, .int .i64 8] W fun en w' => en = .returned (.tuple #[.int .u64 (hexV ((bytesOf s).getD i 0)), .nilIface]) ∧ Below W.heap.size W w' := by
    intro W i hW hi hd
    obtain ⟨h1, h2⟩ := hpiece i hi
    have h := parse_one (s.extract i (i + 1)) base hbs h1
    rw [h2, if_pos hd] at h
    refine (parse_pub 20 _ base 8 _ none W h (Or.inl rfl) (by omega) (HT_.below hW)).mono ?_
    rintro e w' ⟨ev, he, hev, hb⟩
    obtain rfl := hev
    exact ⟨he, hb⟩
  have hbad : ∀ (W : World) (i : Nat), Below w.heap.size w W → i < s.size → ¬ hexV ((bytesOf s).getD i 0) < base → Calls Tryd.prog 64 #[.string (s.extract i (i + 1)), .int .i64 base, .int .i64 8] W fun en w' => (∃ t p, en = .returned (.tuple #[.int .u64 0, .iface t p])) ∧ Below W.heap.size W w' := by
    intro W i hW hi hd
    obtain ⟨h1, h2⟩ := hpiece i hi
    have h := parse_one (s.extract i (i + 1)) base hbs h1
    rw [h2, if_neg hd] at h
    refine (parse_pub 20 _ base 8 _ (some 2) W h (Or.inr rfl) (by omega) (HT_.below hW)).mono ?_
    rintro e w' ⟨ev, he, ⟨t, p, rfl⟩, hb⟩
    exact ⟨⟨t, p, he⟩, hb⟩
  have hall : ∀ W : World, Below w.heap.size w W → Calls Tryd.prog 64 #[.string (s.extract 0 n), .int .i64 base, .int .i64 64] W fun en w' => (∃ ev, en = .returned (.tuple #[.int .u64 v, ev]) ∧ (ev = .nilIface ∨ ∃ t p, ev = .iface t p)) ∧ Below W.heap.size W w' := by
    intro W hW
    have hz : (s.extract 0 n).size = n := by rw [ByteArray.size_extract]; omega
    have hbo : bytesOf (s.extract 0 n) = (bytesOf s).take n := by rw [bytesOf_extract, List.drop_zero]
    by_cases h0 : n = 0
    · subst h0
      have hv0 : v = 0 := by rw [hval]; simp [pv]
      refine (parse_pub 100 _ base 64 0 (some 2) W (parse_none _ base 64 hz) (Or.inr rfl) (by omega) (HT_.below hW)).mono ?_
      rintro e w' ⟨ev, he, hev, hb⟩
      rw [hv0]
      exact ⟨⟨ev, he, Or.inr hev⟩, hb⟩
    · have hp := parse_many (s.extract 0 n) base hbs (by omega) (by omega) (by
        intro c hc
        rw [hbo] at hc
        obtain ⟨j, hj, rfl⟩ := List.getElem_of_mem hc
        rw [List.length_take] at hj
        have := hin j (by omega)
        rw [List.getD_eq_getElem?_getD, List.getElem?_eq_getElem (by omega)] at this
        simpa using this)
      rw [hbo, ← hval] at hp
      refine (parse_pub 100 _ base 64 v none W hp (Or.inl rfl) (by omega) (HT_.below hW)).mono ?_
      rintro e w' ⟨ev, he, hev, hb⟩
      exact ⟨⟨ev, he, Or.inl hev⟩, hb⟩
  have HIN := hid hin
  have HOUT := hid hout
  clear hin hout hval hpiece hbl
  go_enter Tryd.func58, Tryd.ntmps58
  go_wp2
  go_loopw [7] (fun x wr => ∃ i : Nat, i ≤ n ∧ x = .int .i64 i ∧ Below w.heap.size w wr) (fun x _ => n - (intOf x).toNat)
  case atStart => exact ⟨0, Nat.zero_le _, rfl, Below.refl _ _⟩
  case round =>
    obtain ⟨i, hi, rfl, hB⟩ := hrel
    by_cases hlt : i < n
    · have H1 := hone wr i hB (by omega) (HIN.out i hlt)
      have im : (i : Int) < m := by omega
      have is : (i : Int) < s.size := by omega
      have hsz : (if (s.size : Int) < (m : Int) then (s.size : Int) else (m : Int)) > i := by split <;> omega
      go_wp2_with (go_at_call 64; (with_reducible refine H1.mono ?_); rintro e w1 ⟨rfl, hb1⟩)
      exact ⟨⟨i + 1, hlt, by simp, hB.trans (hb1.mono hB.size)⟩, by simp [intOf]; omega⟩
    · obtain rfl : i = n := by omega
      by_cases hend : i < m ∧ i < s.size
      · have H1 := hbad wr i hB hend.2 (HOUT.out hend.1 hend.2)
        obtain ⟨im, is⟩ := hend
        have hsz : (if (s.size : Int) < (m : Int) then (s.size : Int) else (m : Int)) > i := by split <;> omega
        go_wp2_with (first
          | (go_at_call 64; (with_reducible refine H1.mono ?_); rintro e w1 ⟨⟨tp, p, rfl⟩, hb1⟩; have hb1' := hB.trans (hb1.mono hB.size))
          | (go_at_call 64; (with_reducible refine (hall _ hb1').mono ?_); rintro e w2 ⟨⟨ev, rfl, hev⟩, hb2⟩))
        all_goals
          go_big_quiet (fail)
          go_wp2
          go_ret3
          exact ⟨by first | rfl | simp, pw_below_drewN (hb1'.trans (hb2.mono hb1'.size)) _⟩
      · have hsz : ¬ ((if (s.size : Int) < (m : Int) then (s.size : Int) else (m : Int)) > i) := by split <;> omega
        go_wp2_with (go_at_call 64; (with_reducible refine (hall _ hB).mono ?_); rintro e w2 ⟨⟨ev, rfl, hev⟩, hb2⟩)
        all_goals
          go_big_quiet (fail)
          go_wp2
          go_ret3
          exact ⟨by first | rfl | simp, pw_below_drewN (hB.trans (hb2.mono hB.size)) _⟩
end Go.Proofs.YtaklkcnohbbfoaaDoor.Hand
