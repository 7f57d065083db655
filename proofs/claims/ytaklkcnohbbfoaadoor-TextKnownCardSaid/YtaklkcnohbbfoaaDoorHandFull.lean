/-
  text.IsFull: the walk.
-/
import Derived.Test.YtaklkcnohbbfoaaDoorGI
import Derived.Test.YtaklkcnohbbfoaaDoorHandMap
import Derived.Test.YtaklkcnohbbfoaaDoorShelf
namespace Go.Proofs.YtaklkcnohbbfoaaDoor.Hand
open Go.RowKit Go.Proofs.YtaklkcnohbbfoaaDoorW.PrintWords Go.Proofs.YtaklkcnohbbfoaaDoor.PAll
set_option linter.unusedVariables false
set_option linter.unusedSimpArgs false

def full : List ByteArray → Option Bool
  | [] => some true
  | p :: r => (text_IsIdent.f 200 p).bind fun t => if t = true then full r else some false
def dot : ByteArray := ⟨#[46]⟩
def pieces (s : ByteArray) : List ByteArray := Lib.splitB dot 0 (Lib.countB s dot) s
def text_IsFull.f (s : ByteArray) : Option Bool := if (s.size : Int) > 128 then some false else full (pieces s)
theorem full_next (l : List ByteArray) (i : Nat) (h : i < l.length) : full (l.drop i) = (text_IsIdent.f 200 l[i]).bind fun t => if t = true then full (l.drop (i + 1)) else some false := by
  rw [List.drop_eq_getElem_cons h, full]
set_option maxRecDepth 100000 in
set_option maxHeartbeats 4000000 in
theorem text_IsFull.calls (a0 : ByteArray) (r : Bool) (w : World) (h : text_IsFull.f a0 = some r) (HT_ : Tabs w) :
    Calls Tryd.prog 24 #[.string a0] w fun e w' => e = .returned (.bool r) ∧ Below w.heap.size w w' := by
  obtain ⟨m, hm⟩ := HT_.lim
  unfold text_IsFull.f at h
  by_cases hs : (a0.size : Int) > 128
  · rw [if_pos hs] at h
    obtain rfl := Option.some.inj h
    go_enter Tryd.func24, Tryd.ntmps24
    go_wp2
    go_ret
    exact ⟨rfl, Below.refl _ _⟩
  · rw [if_neg hs] at h
    have hp : (pieces a0).length = Lib.countB a0 dot + 1 := Lib.splitB_all dot (by decide) 0 _ a0 rfl
    have hle := Lib.countB_le dot (by decide) a0.size a0 (Nat.le_refl _)
    have H := hid h
    clear h
    obtain ⟨l, hl⟩ : ∃ l, l = pieces a0 := ⟨_, rfl⟩
    obtain ⟨n, hn⟩ : ∃ n, n = l.length := ⟨_, rfl⟩
    have hnn : Lib.countB a0 dot + 1 = n := by rw [hn, hl, hp]
    obtain ⟨W2, hW2⟩ : ∃ W2, W2 = w.alloc (.cells (l.map Value.string).toArray 9) := ⟨_, rfl⟩
    have hsp : Calls Tryd.prog 48 #[.string a0, .string ⟨#[46]⟩] w fun e w' => e = .returned (.slice (some ⟨w.heap.size, 0, none⟩) n n) ∧ w' = W2 := by
      have := Tryd.strings_Split a0 dot m w (by omega) hm (by decide)
      rw [hnn] at this
      rw [hW2, hl]
      exact this
    have hcell : ∀ (wr : World) (i : Nat) (hi : i < l.length), Below W2.heap.size W2 wr → wr.cell? ⟨w.heap.size, i, none⟩ = some (.string l[i]) := by
      intro wr i hi hb
      refine (hb.cell (by rw [hW2]; simp)).trans ?_
      rw [hW2]
      simp [World.cell?, World.alloc, -World.alloc_eq, hi]
    have HC := hid hcell
    have HB0 := hid (show Below w.heap.size w W2 by rw [hW2]; exact (Below.refl _ _).alloc (Nat.le_refl _) _)
    have HS := hid (show n ≤ 200 by omega)
    have H1 : Hid (full (l.drop 0) = some r) := hid (by rw [List.drop_zero, hl]; exact H.out)
    clear hcell hl hp hle hnn hW2 H
    go_enter Tryd.func24, Tryd.ntmps24
    go_wp2_with (go_at_call 48; refine hsp.mono ?_; rintro e w2 ⟨rfl, rfl⟩)
    go_loopw [11] (fun x wr => ∃ i : Nat, i ≤ n ∧ x = .int .i64 i ∧ Hid (full (l.drop i) = some r) ∧ Hid (Below w2.heap.size w2 wr)) (fun x _ => n - (intOf x).toNat)
    case atStart => exact ⟨0, Nat.zero_le _, rfl, H1, hid (Below.refl _ _)⟩
    case round =>
      obtain ⟨i, hi, rfl, hf, hB⟩ := hrel
      by_cases hlt : i < n
      · have hcx := HC.out wr i (by omega) hB.out
        have hf2 := hf.out
        rw [full_next l i (by omega)] at hf2
        obtain ⟨t, ht, hf3⟩ := Option.bind_eq_some_iff.1 hf2
        clear hf2
        have HF := hid hf3
        have HT := hid ht
        clear hf3 ht hf
        have hs := HS.out
        rcases t with _ | _
        · go_wp2_with (go_at_call 22; refine (text_IsIdent.calls 200 _ _ wr HT.out).mono ?_; rintro e w3 ⟨rfl, hb3⟩)
          go_ret
          have := HF.out
          simp only [Bool.false_eq_true, if_false] at this
          obtain rfl := Option.some.inj this
          exact ⟨rfl, HB0.out.trans ((hB.out.trans (hb3.mono hB.out.size)).mono HB0.out.size)⟩
        · go_wp2_with (go_at_call 22; refine (text_IsIdent.calls 200 _ _ wr HT.out).mono ?_; rintro e w3 ⟨rfl, hb3⟩)
          have := HF.out
          simp only [if_true] at this
          exact ⟨⟨i + 1, by omega, by simp, hid this, hid (hB.out.trans (hb3.mono hB.out.size))⟩, by simp [intOf]; omega⟩
      · have hs := HS.out
        go_wp2
        go_ret
        have := hf.out
        rw [List.drop_of_length_le (by omega), full] at this
        obtain rfl := Option.some.inj this
        exact ⟨rfl, HB0.out.trans (hB.out.mono HB0.out.size)⟩
end Go.Proofs.YtaklkcnohbbfoaaDoor.Hand
