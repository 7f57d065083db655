/-
  The reference reader's methods, as the specs: contracts. The reference reader's node: the walk. The reference reader's parts: the walk. The reference reader, whole: node by depth, and Parse.
-/
import Derived.Test.YtodnggilomanbaaGreatDoorGRz
import Derived.Test.YtodnggilomanbaaGreatDoorPlainRz
import Derived.Test.YtodnggilomanbaaGreatDoorAp
section
namespace Go.Proofs.YtodnggilomanbaaGreatDoor.Hand
open Go.RowKit Go.Lib Go.Proofs.YtodnggilomanbaaGreatDoor.PAll Go.Proofs.YtodnggilomanbaaGreatDoorW.PrintWords Go.Proofs.YtodnggilomanbaaGreatDoorW.PrintLast Go.Proofs.YtodnggilomanbaaGreatDoorW.PrintMore Go.Proofs.YtodnggilomanbaaGreatDoor.Pure
set_option linter.unusedVariables false
set_option linter.unusedSimpArgs false

/-! ### the reference's nodes -/
mutual
def toR : S28 → S37
  | ⟨a, b, q, d⟩ => ⟨a, b, q, toRL d⟩
def toRL : List S28 → List S37
  | [] => []
  | x :: l => toR x :: toRL l
end
theorem toRL_app (a b : List S28) : toRL (a ++ b) = toRL a ++ toRL b := by
  induction a with
  | nil => rfl
  | cons x l ih => rw [List.cons_append, toRL, ih, toRL, List.cons_append]
theorem toR_at (n : S28) : toR n = ⟨n.f0, n.f1, n.f2, toRL n.f3⟩ := by cases n; rfl
/-! ### contracts -/
variable {w0 w : World} {g : Nat} {s : ByteArray} {x m h e : Int}
abbrev RKept (w0 w w' : World) (g : Nat) (s : ByteArray) (x m h e : Int) : Prop := IsS95 w0 w' g s x m h e ∧ Below w0.heap.size w0 w' ∧ KeepBut w w' g none
theorem rbl_calls (hs : s.size ≤ 1000) (hI : IsS95 w0 w g s x m h e) (hB : Below w0.heap.size w0 w) (h0 : 0 ≤ x) (h1 : x ≤ (s.size : Int)) :
    Calls Tryz.prog 51 #[.pointer (some ⟨g, 0, none⟩)] w fun e_ w' => e_ = .returned (.tuple #[]) ∧ RKept w0 w w' g s (blanksF s x) m h e :=
  signetryref14_Reader_blanks.calls (s.size + 1) g s x m h e s (blanksF s x) m h e w0 w hI hB (rblanks_f (by omega) h0 h1 (by omega))
/-- The byte that is next; 0 behind an error. -/
def nowE (s : ByteArray) (x e : Int) : Int := if e = 0 then nowF s x else 0
theorem rnow_calls (hI : IsS95 w0 w g s x m h e) (hB : Below w0.heap.size w0 w) (h0 : 0 ≤ x) (h1 : x ≤ (s.size : Int)) :
 Calls Tryz.prog 79 #[.pointer (some ⟨g, 0, none⟩)] w fun e_ w' => e_ = .returned (.int .u8 (nowE s x e)) ∧ RKept w0 w w' g s x m h e := by
 refine signetryref14_Reader_now.calls g s x m h e (nowE s x e) s x m h e w0 w hI hB ?_
 unfold nowE
 by_cases he : e = 0
 case neg =>
  rw [if_neg he]
  exact rnow_err he
 subst he
 rw [if_pos rfl]
 exact rnow h0 h1
theorem rfail_calls (p c : Int) (hI : IsS95 w0 w g s x m h e) (hB : Below w0.heap.size w0 w) :
 Calls Tryz.prog 52 #[.pointer (some ⟨g, 0, none⟩), .int .i64 p, .int .i64 c] w fun e_ w' => e_ = .returned (.tuple #[]) ∧ RKept w0 w w' g s x m (if e = 0 then p else h) (if e = 0 then c else e) := by
 refine signetryref14_Reader_fail.calls g s x m h e p c s x m _ _ w0 w hI hB ?_
 by_cases he : e = 0
 case neg =>
  rw [if_neg he, if_neg he]
  exact rfail_err he
 subst he
 rw [if_pos rfl, if_pos rfl]
 exact rfail
/-- What is left behind a word, behind an error or not. -/
def wordS (s : ByteArray) (x h e : Int) (t : List Int) : Int × Int × Int := if e = 0 then (match wordF s t x with
  | .ok y => (y, h, 0)
  | .error p => (p, p, 140)) else (x, h, e)
theorem rword_calls (t : ByteArray) (ht : t.size ≤ 8) (hs : s.size ≤ 1000) (hI : IsS95 w0 w g s x m h e) (hB : Below w0.heap.size w0 w) (h0 : 0 ≤ x) (h1 : x ≤ (s.size : Int)) :
 Calls Tryz.prog 80 #[.pointer (some ⟨g, 0, none⟩), .string t] w fun e_ w' => e_ = .returned (.tuple #[]) ∧ RKept w0 w w' g s (wordS s x h e (bytesOf t)).1 m (wordS s x h e (bytesOf t)).2.1 (wordS s x h e (bytesOf t)).2.2 := by
 refine signetryref14_Reader_word.calls 20 g s x m h e t s _ m _ _ w0 w hI hB ?_
 unfold wordS
 by_cases he : e = 0
 case neg =>
  rw [if_neg he]
  exact rword_err he (by omega)
 subst he
 rw [if_pos rfl, rword_f (by omega) ht h0 h1 (by omega)]
 rcases wordF s (bytesOf t) x with p | y <;> rfl
theorem rstr_calls (hs : s.size ≤ 1000) (hI : IsS95 w0 w g s x m h 0) (hB : Below w0.heap.size w0 w) (h0 : 0 ≤ x) (h1 : x ≤ (s.size : Int)) :
    ∃ o : ByteArray × ByteArray × Int × Int × Int × Int, strR s m h (strF s x) o ∧ Calls Tryz.prog 81 #[.pointer (some ⟨g, 0, none⟩)] w fun e_ w' => e_ = .returned (.string o.1) ∧ RKept w0 w w' g o.2.1 o.2.2.1 o.2.2.2.1 o.2.2.2.2.1 o.2.2.2.2.2 := by
  obtain ⟨o, h2, h3⟩ := rstr hs (m := m) (h := h) h0 h1
  exact ⟨o, h3, signetryref14_Reader_str.calls 2200 g s x m h 0 o.1 o.2.1 o.2.2.1 o.2.2.2.1 o.2.2.2.2.1 o.2.2.2.2.2 w0 w hI hB (h2 2200 (by omega))⟩
theorem rnum_calls (mm dd : Int) (hs : s.size ≤ 1000) (hI : IsS95 w0 w g s x m h 0) (hB : Below w0.heap.size w0 w) (h0 : 0 ≤ x) (h1 : x ≤ (s.size : Int)) :
    ∃ o : ByteArray × ByteArray × Int × Int × Int × Int, numR s m h (numberF s x mm dd) o ∧ Calls Tryz.prog 83 #[.pointer (some ⟨g, 0, none⟩)] w fun e_ w' => e_ = .returned (.string o.1) ∧ RKept w0 w w' g o.2.1 o.2.2.1 o.2.2.2.1 o.2.2.2.2.1 o.2.2.2.2.2 := by
  obtain ⟨o, h2, h3⟩ := rnumber (by omega) (m := m) (h := h) (mm := mm) (dd := dd) h0 h1
  exact ⟨o, h3, signetryref14_Reader_number.calls (s.size + 5) g s x m h 0 o.1 o.2.1 o.2.2.1 o.2.2.2.1 o.2.2.2.2.1 o.2.2.2.2.2 w0 w hI hB (h2 _ (Nat.le_refl _))⟩
theorem R_far4 {α : Type} {d : Kd α} {e : Nat} {W : World} {B : Nat} {ok : Nat → Prop} {v : Value} {xs : List α} {b : Nat} (hr : d.R e W B ok v xs) (hlt : b < B) (v0 v1 v2 v3 : Value) : d.R e ((((W.setCell ⟨b, 0, none⟩ v0).setCell ⟨b, 1, none⟩ v1).setCell ⟨b, 2, none⟩ v2).setCell ⟨b, 3, none⟩ v3) B ok v xs := by
  have h1 : d.R e W B (fun k => ok k ∧ k ≠ b) v xs := Kd.R_mono (Kd.R_bound hr) (fun k hk => ⟨hk.1, by have := hk.2.1; omega⟩)
  exact Kd.R_mono (Kd.R_far (p := ⟨b, 3, none⟩) (Kd.R_far (p := ⟨b, 2, none⟩) (Kd.R_far (p := ⟨b, 1, none⟩) (Kd.R_far (p := ⟨b, 0, none⟩) h1 (fun _ hk => hk.2) v0) (fun _ hk => hk.2) v1) (fun _ hk => hk.2) v2) (fun _ hk => hk.2) v3) (fun _ hk => hk.1)
/-- What is left behind a node that is read. -/
def RGood (h : Int) (r : Except (Int × Int) (S28 × Int × Int × Int)) (nd : S37) (x' m' h' e' : Int) : Prop := match r with
  | .ok (n, z, m2, _) => nd = toR n ∧ x' = z ∧ m' = m2 ∧ h' = h ∧ e' = 0
  | .error (p, c) => h' = p ∧ e' = c ∧ c ≠ 0
def RNOut (w0 w w' : World) (g : Nat) (s : ByteArray) (P : S37 → Int → Int → Int → Int → Prop) (e : Ending) : Prop := ∃ (nd : S37) (v2 v3 : Value) (x' m' h' e' : Int),
  e = .returned (.agg #[.int .i64 nd.f0, .string nd.f1, v2, v3]) ∧ Kd.R Kd.string 9 w' w.heap.size (fun _ => True) v2 nd.f2 ∧ Kd.R k37 37 w' w.heap.size (fun k_ => some k_ ≠ v2.ownBlock) v3 nd.f3 ∧ RKept w0 w w' g s x' m' h' e' ∧ (0 ≤ x' ∧ x' ≤ (s.size : Int)) ∧ P nd x' m' h' e'
theorem rstored {W : World} {b : Nat} {cs : Array Value} (hi : RKept w0 w W g s x m h e) (h4 : W.heap[b]? = some (.cells cs 37 (0, 0))) (hne : b ≠ g) (hwb : w.heap.size ≤ b) (hw0 : w0.heap.size ≤ b) (v0 v1 v2 v3 : Value) (hz : cs.size = 4 := by rfl) :
 ((((W.setCell ⟨b, 0, none⟩ v0).setCell ⟨b, 1, none⟩ v1).setCell ⟨b, 2, none⟩ v2).setCell ⟨b, 3, none⟩ v3).heap[b]? = some (.cells #[v0, v1, v2, v3] 37 (0, 0)) ∧
 RKept w0 w ((((W.setCell ⟨b, 0, none⟩ v0).setCell ⟨b, 1, none⟩ v1).setCell ⟨b, 2, none⟩ v2).setCell ⟨b, 3, none⟩ v3) g s x m h e := by
 obtain ⟨c⟩ := cs
 obtain ⟨a0, a1, a2, a3, rfl⟩ : ∃ a0 a1 a2 a3, c = [a0, a1, a2, a3] := by
  rcases c with _ | ⟨a0, _ | ⟨a1, _ | ⟨a2, _ | ⟨a3, _ | ⟨a4, c⟩⟩⟩⟩⟩ <;> first | (simp at hz; done) | exact ⟨_, _, _, _, rfl⟩
 refine ⟨?_, ?_, ?_, ?_⟩
 ·exact blk_put (cs := #[v0, v1, v2, a3]) (blk_put (cs := #[v0, v1, a2, a3]) (blk_put (cs := #[v0, a1, a2, a3]) (blk_put (cs := #[a0, a1, a2, a3]) h4 0 _ rfl) 1 _ rfl) 2 _ rfl) 3 _ rfl
 ·exact (((hi.1.far hne.symm v0).far hne.symm v1).far hne.symm v2).far hne.symm v3
 ·exact below_set (below_set (below_set (below_set hi.2.1 hw0) hw0) hw0) hw0
 ·exact keep_far (keep_far (keep_far (keep_far hi.2.2 hwb _) hwb _) hwb _) hwb _
end Go.Proofs.YtodnggilomanbaaGreatDoor.Hand
end
section
set_option maxRecDepth 100000
set_option maxHeartbeats 8000000
namespace Go.Proofs.YtodnggilomanbaaGreatDoor.Hand
open Go.RowKit Go.Lib Go.Proofs.YtodnggilomanbaaGreatDoor.PAll Go.Proofs.YtodnggilomanbaaGreatDoorW.PrintWords Go.Proofs.YtodnggilomanbaaGreatDoorW.PrintLast Go.Proofs.YtodnggilomanbaaGreatDoorW.PrintMore Go.Proofs.YtodnggilomanbaaGreatDoor.Pure
set_option linter.unusedVariables false
set_option linter.unusedSimpArgs false
theorem u8_ge {c : Int} : (c ≥ 48) = (48 ≤ c) := rfl
theorem wordS_bd {s : ByteArray} {x h : Int} {t : List Int} {ws : Int × Int × Int} (h0 : 0 ≤ x) (h1 : x ≤ (s.size : Int)) (hw : wordS s x h 0 t = ws) : 0 ≤ ws.1 ∧ ws.1 ≤ (s.size : Int) := by
 have key : ∀ (t : List Int) (x : Int), 0 ≤ x → x ≤ (s.size : Int) → match wordF s t x with
  | .ok y => 0 ≤ y ∧ y ≤ (s.size : Int)
  | .error p => 0 ≤ p ∧ p ≤ (s.size : Int) := by
  intro t
  induction t with
  | nil => intro x a b; exact ⟨a, b⟩
  | cons c t ih =>
   intro x a b
   rw [wordF]
   by_cases hx : x = (s.size : Int)
   case pos =>
    rw [if_pos hx]
    exact ⟨a, b⟩
   rw [if_neg hx]
   by_cases hb : bt s x = c
   case neg =>
    rw [if_neg hb]
    exact ⟨a, b⟩
   rw [if_pos hb]
   exact ih (x + 1) (by omega) (by omega)
 have := key t x h0 h1
 unfold wordS at hw
 rw [if_pos rfl] at hw
 rcases hr : wordF s t x with p | y <;> rw [hr] at this hw <;> (rw [← hw]; exact this)
theorem leaf_good {s : ByteArray} {y h : Int} {t : List Int} {ws : Int × Int × Int} (kind m D : Int) (hw : wordS s y h 0 t = ws) : RGood h (match leafF s t kind y m D with
 | .error e => .error e
 | .ok (nd, z, m, d) => .ok (nd, z, m, d - 1)) ⟨kind, ⟨#[]⟩, [], []⟩ ws.1 m ws.2.1 ws.2.2 := by
 unfold wordS at hw
 rw [if_pos rfl] at hw
 unfold leafF
 rcases hr : wordF s t y with p | z <;> rw [hr] at hw <;> rw [← hw]
 ·exact ⟨rfl, rfl, by decide⟩
 ·exact ⟨rfl, rfl, rfl, rfl, rfl⟩
theorem numF_err {s : ByteArray} {x m d p c : Int} (h : numberF s x m d = .error (p, c)) : c = 140 := by
 unfold numberF at h
 split at h
 ·cases h; rfl
 ·split at h
  ·cases h; rfl
  ·cases h
theorem numF_ok {s : ByteArray} {x m d z m2 d2 : Int} {n : S28} (h : numberF s x m d = .ok (n, z, m2, d2)) : (n.f0 = 4 ∧ n.f2 = [] ∧ n.f3 = []) ∧ m2 = m := by
 unfold numberF at h
 split at h
 ·cases h
 ·split at h
  ·cases h
  ·cases h
   exact ⟨⟨rfl, rfl, rfl⟩, rfl⟩
theorem parts_good {h : Int} {A B : Except (Int × Int) (S28 × Int × Int × Int)} {nd : S37} {x m h' e : Int} : A = B → RGood h B nd x m h' e → RGood h (match A with
 | .error e => .error e
 | .ok (nd, z, m, d) => .ok (nd, z, m, d - 1)) nd x m h' e := by
 rintro rfl hg
 rcases A with q | ⟨a, b, q, d⟩
 ·exact hg
 ·exact hg
theorem rnode_step (g : Nat) (s : ByteArray) (x m h e : Int) (D k : Nat) (w0 w : World) (hz : s.size ≤ 1000) (hk : k + 1 + D = 61) (hI : IsS95 w0 w g s x m h e) (hB : Below w0.heap.size w0 w) (h0 : 0 ≤ x) (h1 : x ≤ (s.size : Int)) (hm : e = 0 → 0 ≤ m ∧ m ≤ 4000)
 (hParts : ∀ (kind last : Int) (W : World) (x2 m2 : Int), (kind = 6 ∧ last = 93) ∨ (kind = 7 ∧ last = 125) → D + 1 ≤ 60 → IsS95 w0 W g s x2 m2 h 0 → Below w0.heap.size w0 W → 0 ≤ x2 → x2 < (s.size : Int) → 0 ≤ m2 → m2 ≤ 4000 →
  Calls Tryz.prog 82 #[.pointer (some ⟨g, 0, none⟩), .int .i64 ((D : Int) + 1), .int .i64 kind, .string ⟨#[UInt8.ofNat last.toNat]⟩] W fun e_ w' => RNOut w0 W w' g s (RGood h (partsF (nodeF s k) s kind last x2 m2 ((D : Int) + 1))) e_) :
 Calls Tryz.prog 50 #[.pointer (some ⟨g, 0, none⟩), .int .i64 ((D : Int) + 1)] w fun e_ w' => RNOut w0 w w' g s (fun nd x' m' h' e' => if e = 0 then RGood h (nodeF s (k + 1) x m (D : Int)) nd x' m' h' e' else h' = h ∧ e' = e) e_ := by
 have hne : w.heap.size ≠ g := (Nat.ne_of_lt hI.lt).symm
 have hge : w0.heap.size ≤ w.heap.size := hB.size
 have hb1 : (w.alloc (.cells zcells 37)).heap[w.heap.size]? = some (.cells zcells 37 (0, 0)) := heap_alloc_new w _
 have hK1 : KeepBut w (w.alloc (.cells zcells 37)) g none := keep_alloc (KeepBut.refl w g none) _
 obtain ⟨y, hy⟩ : ∃ y, blanksF s x = y := ⟨_, rfl⟩
 have hyb := blanksF_bd h0 h1
 rw [hy] at hyb
 have hbl := rbl_calls (w := w.alloc (.cells zcells 37)) hz (hI.alloc _) (below_alloc hB _) h0 h1
 rw [hy] at hbl
 go_enter Tryz.func50, Tryz.ntmps50
 go_upto_region 2 with (go_at_call 51; refine hbl.mono ?_; rintro e_ w2 ⟨rfl, hs2⟩; have hb2 := hs2.2.2.blk hb1 hne (by simp); have hk2 := KeepBut.trans hK1 hs2.2.2 (.inl rfl); have hs3 : RKept w0 w w2 g s y m h e := ⟨hs2.1, hs2.2.1, hk2⟩; clear hs2 hk2)
 have hnw := rnow_calls hs3.1 hs3.2.1 (by omega) hyb.2
 obtain ⟨c, hc⟩ : ∃ c, nowE s y e = c := ⟨_, rfl⟩
 rw [hc] at hnw
 clear hbl hb1 hK1
 go_upto_region 3 with (go_at_call 79; refine hnw.mono ?_; rintro e_ w3 ⟨rfl, hs4⟩; have hb3 := hs4.2.2.blk hb2 hne (by simp); have hs5 : RKept w0 w w3 g s y m h e := ⟨hs4.1, hs4.2.1, hs3.2.2.trans hs4.2.2 (.inl rfl)⟩; clear hs4)
 clear hnw hs3 hb2
 obtain ⟨HG, _⟩ := hs5.1
 have q1 := cellS95_1 HG
 go_upto_region 4 with (fail)
 clear q1 HG
 go_cut [7] (fun v7 wc => v7 = .bool (isWay c) ∧ wc = w3)
 case first =>
  clear hParts
  by_cases c0 : c = 110
  ·have hw : isWay c = true := by rw [c0]; decide
   subst c0
   go_wp2
   go_meet
   case rel => exact ⟨by rw [hw], rfl⟩
  have d0 : (c == 110) = false := beq_eq_false_iff_ne.mpr c0
  by_cases c1 : c = 102
  ·have hw : isWay c = true := by rw [c1]; decide
   subst c1
   go_wp2
   go_meet
   case rel => exact ⟨by rw [hw], rfl⟩
  have d1 : (c == 102) = false := beq_eq_false_iff_ne.mpr c1
  by_cases c2 : c = 116
  ·have hw : isWay c = true := by rw [c2]; decide
   subst c2
   go_wp2
   go_meet
   case rel => exact ⟨by rw [hw], rfl⟩
  have d2 : (c == 116) = false := beq_eq_false_iff_ne.mpr c2
  by_cases c3 : c = 34
  ·have hw : isWay c = true := by rw [c3]; decide
   subst c3
   go_wp2
   go_meet
   case rel => exact ⟨by rw [hw], rfl⟩
  have d3 : (c == 34) = false := beq_eq_false_iff_ne.mpr c3
  by_cases c4 : c = 91
  ·have hw : isWay c = true := by rw [c4]; decide
   subst c4
   go_wp2
   go_meet
   case rel => exact ⟨by rw [hw], rfl⟩
  have d4 : (c == 91) = false := beq_eq_false_iff_ne.mpr c4
  by_cases c5 : c = 123
  ·have hw : isWay c = true := by rw [c5]; decide
   subst c5
   go_wp2
   go_meet
   case rel => exact ⟨by rw [hw], rfl⟩
  have d5 : (c == 123) = false := beq_eq_false_iff_ne.mpr c5
  by_cases c6 : c = 45
  ·have hw : isWay c = true := by rw [c6]; decide
   subst c6
   go_wp2
   go_meet
   case rel => exact ⟨by rw [hw], rfl⟩
  have d6 : (c == 45) = false := beq_eq_false_iff_ne.mpr c6
  by_cases c8 : 48 ≤ c
  case neg =>
   have e8 : decide (48 ≤ c) = false := decide_eq_false c8
   have hw : isWay c = false := by unfold isWay; rw [e8]; simp [c0, c1, c2, c3, c4, c5, c6]
   go_wp2
   go_meet
   case rel => exact ⟨by rw [hw], rfl⟩
  have e8 : decide (48 ≤ c) = true := decide_eq_true c8
  by_cases c9 : c ≤ 57
  case pos =>
   have e9 : decide (c ≤ 57) = true := decide_eq_true c9
   have hw : isWay c = true := by unfold isWay; rw [e8, e9]; simp
   go_wp2
   go_meet
   case rel => exact ⟨by rw [hw], rfl⟩
  have e9 : decide (c ≤ 57) = false := decide_eq_false c9
  have hw : isWay c = false := by unfold isWay; rw [e9]; simp [c0, c1, c2, c3, c4, c5, c6]
  go_wp2
  go_meet
  case rel => exact ⟨by rw [hw], rfl⟩
 case rest =>
  obtain ⟨rfl, rfl⟩ := hcut
  by_cases hw : isWay c = true
  case neg =>
   have hw : isWay c = false := by simpa using hw
   rw [hw]
   obtain ⟨HG, _⟩ := hs5.1
   have q1 := cellS95_1 HG
   have hfl := rfail_calls y 140 hs5.1 hs5.2.1
   clear hParts
   by_cases he : e = 0
   case neg =>
    rw [if_neg he, if_neg he] at hfl
    go_wp2_with (go_at_call 52; refine hfl.mono ?_; rintro e_ w5 ⟨rfl, hs6⟩; have hb5 := hs6.2.2.blk hb3 hne (by simp); have hs7 : RKept w0 w w5 g s y m h e := ⟨hs6.1, hs6.2.1, hs5.2.2.trans hs6.2.2 (.inl rfl)⟩; clear hs6; have f0 := blk_frozen hb5 0; have f1 := blk_frozen hb5 1; have f2 := blk_frozen hb5 2; have f3 := blk_frozen hb5 3; have z0 := cell_of (i := 0) hb5 rfl; have z1 := cell_of (i := 1) hb5 rfl; have z2 := cell_of (i := 2) hb5 rfl; have z3 := cell_of (i := 3) hb5 rfl)
    have hst := rstored hs7 hb5 hne (Nat.le_refl _) hge (.int .i64 0) (.string ⟨#[]⟩) (.slice none 0 0) (.slice none 0 0)
    refine bodyPost_ret (results_cell_row rfl _ _ w.heap.size 37 #[.int .i64 0, .string ⟨#[]⟩, .slice none 0 0, .slice none 0 0] (0, 0) _ rfl hst.1 Tryz.underlying37 rfl p8z) rfl ?_
    refine ⟨⟨0, ⟨#[]⟩, [], []⟩, _, _, y, m, _, _, rfl, Kd.R_nil _ _ _ _ _, Kd.R_nil _ _ _ _ _, hst.2, ⟨by omega, hyb.2⟩, ?_⟩
    first | exact ⟨rfl, rfl⟩ | (show (if e = 0 then _ else _); rw [if_neg he]; exact ⟨rfl, rfl⟩)
   subst he
   rw [if_pos rfl, if_pos rfl] at hfl
   have hcn : nowF s y = c := by
    unfold nowE at hc
    rwa [if_pos rfl] at hc
   have HN : Aside0 (nodeF s (k + 1) x m (D : Int) = .error (y, 140)) := ⟨by
    rw [nodeF]
    simp only
    rw [hy, hcn, if_neg (by rw [hw]; decide)]⟩
   go_wp2_with (go_at_call 52; refine hfl.mono ?_; rintro e_ w5 ⟨rfl, hs6⟩; have hb5 := hs6.2.2.blk hb3 hne (by simp); have hs7 : RKept w0 w w5 g s y m y 140 := ⟨hs6.1, hs6.2.1, hs5.2.2.trans hs6.2.2 (.inl rfl)⟩; clear hs6; have f0 := blk_frozen hb5 0; have f1 := blk_frozen hb5 1; have f2 := blk_frozen hb5 2; have f3 := blk_frozen hb5 3; have z0 := cell_of (i := 0) hb5 rfl; have z1 := cell_of (i := 1) hb5 rfl; have z2 := cell_of (i := 2) hb5 rfl; have z3 := cell_of (i := 3) hb5 rfl)
   have hst := rstored hs7 hb5 hne (Nat.le_refl _) hge (.int .i64 0) (.string ⟨#[]⟩) (.slice none 0 0) (.slice none 0 0)
   refine bodyPost_ret (results_cell_row rfl _ _ w.heap.size 37 #[.int .i64 0, .string ⟨#[]⟩, .slice none 0 0, .slice none 0 0] (0, 0) _ rfl hst.1 Tryz.underlying37 rfl p8z) rfl ?_
   refine ⟨⟨0, ⟨#[]⟩, [], []⟩, _, _, y, m, y, 140, rfl, Kd.R_nil _ _ _ _ _, Kd.R_nil _ _ _ _ _, hst.2, ⟨by omega, hyb.2⟩, ?_⟩
   first | (show RGood h (nodeF s (k + 1) x m (D : Int)) _ _ _ _ _) | (show (if (0 : Int) = 0 then RGood h (nodeF s (k + 1) x m (D : Int)) _ _ _ _ _ else _); rw [if_pos rfl])
   rw [HN.out]
   exact ⟨rfl, rfl, by decide⟩
  have he : e = 0 := by
   by_cases he : e = 0
   case pos =>
    exact he
   unfold nowE at hc
   rw [if_neg he] at hc
   rw [← hc] at hw
   exact absurd hw (by decide)
  subst he
  obtain ⟨m0, m1⟩ := hm rfl
  have hcn : nowF s y = c := by
   unfold nowE at hc
   rwa [if_pos rfl] at hc
  rw [hw]
  obtain ⟨HG, _⟩ := hs5.1
  have q2 := cellS95_2 HG
  have r2 := blk_frozen HG 2
  have hw1 : wrap64 (m + 1) = m + 1 := w64 (by omega) (by omega)
  go_upto_region 9 with (fail)
  have hs6 : RKept w0 w (wc.setCell ⟨g, 2, none⟩ (.int .i64 (m + 1))) g s y (m + 1) h 0 := ⟨hs5.1.set_2 _, below_set hs5.2.1 hs5.1.ge, KeepBut.set_ hs5.2.2 2 _⟩
  have hb6 := blk_far (p := ⟨g, 2, none⟩) hb3 hne (.int .i64 (m + 1))
  clear q2 r2 HG hs5 hb3
  obtain ⟨w6, hw6⟩ : ∃ w6, wc.setCell ⟨g, 2, none⟩ (.int .i64 (m + 1)) = w6 := ⟨_, rfl⟩
  rw [hw6] at hs6 hb6 ⊢
  clear hw6
  obtain ⟨HG, _⟩ := hs6.1
  have q2 := cellS95_2 HG
  clear HG
  by_cases lim : 4000 < m + 1 ∨ 60 < (D : Int) + 1
  case pos =>
   have hnode : nodeF s (k + 1) x m (D : Int) = .error (y, 5) := by
    rw [nodeF]
    simp only
    rw [hy, hcn, if_pos hw, if_pos lim]
   have hfl := rfail_calls y 5 hs6.1 hs6.2.1
   have HN := Aside0.mk hnode
   clear hParts hnode
   by_cases l1 : 4000 < m + 1
   case pos =>
    have l1b : decide (4000 < m + 1) = true := decide_eq_true l1
    go_wp2_with (go_at_call 52; refine hfl.mono ?_; rintro e_ w8 ⟨rfl, hs8⟩; have hb8 := hs8.2.2.blk hb6 hne (by simp); have hs9 : RKept w0 w w8 g s y (m + 1) y 5 := ⟨hs8.1, hs8.2.1, hs6.2.2.trans hs8.2.2 (.inl rfl)⟩; clear hs8; have f0 := blk_frozen hb8 0; have f1 := blk_frozen hb8 1; have f2 := blk_frozen hb8 2; have f3 := blk_frozen hb8 3; have z0 := cell_of (i := 0) hb8 rfl; have z1 := cell_of (i := 1) hb8 rfl; have z2 := cell_of (i := 2) hb8 rfl; have z3 := cell_of (i := 3) hb8 rfl)
    have hst := rstored hs9 hb8 hne (Nat.le_refl _) hge (.int .i64 0) (.string ⟨#[]⟩) (.slice none 0 0) (.slice none 0 0)
    refine bodyPost_ret (results_cell_row rfl _ _ w.heap.size 37 #[.int .i64 0, .string ⟨#[]⟩, .slice none 0 0, .slice none 0 0] (0, 0) _ rfl hst.1 Tryz.underlying37 rfl p8z) rfl ?_
    refine ⟨⟨0, ⟨#[]⟩, [], []⟩, _, _, y, m + 1, y, 5, rfl, Kd.R_nil _ _ _ _ _, Kd.R_nil _ _ _ _ _, hst.2, ⟨by omega, hyb.2⟩, ?_⟩
    first | (show RGood h (nodeF s (k + 1) x m (D : Int)) _ _ _ _ _) | (show (if (0 : Int) = 0 then RGood h (nodeF s (k + 1) x m (D : Int)) _ _ _ _ _ else _); rw [if_pos rfl])
    rw [HN.out]
    exact ⟨rfl, rfl, by decide⟩
   have l1b : decide (4000 < m + 1) = false := decide_eq_false l1
   have l2b : decide (60 < (D : Int) + 1) = true := decide_eq_true (by omega)
   go_wp2_with (go_at_call 52; refine hfl.mono ?_; rintro e_ w8 ⟨rfl, hs8⟩; have hb8 := hs8.2.2.blk hb6 hne (by simp); have hs9 : RKept w0 w w8 g s y (m + 1) y 5 := ⟨hs8.1, hs8.2.1, hs6.2.2.trans hs8.2.2 (.inl rfl)⟩; clear hs8; have f0 := blk_frozen hb8 0; have f1 := blk_frozen hb8 1; have f2 := blk_frozen hb8 2; have f3 := blk_frozen hb8 3; have z0 := cell_of (i := 0) hb8 rfl; have z1 := cell_of (i := 1) hb8 rfl; have z2 := cell_of (i := 2) hb8 rfl; have z3 := cell_of (i := 3) hb8 rfl)
   have hst := rstored hs9 hb8 hne (Nat.le_refl _) hge (.int .i64 0) (.string ⟨#[]⟩) (.slice none 0 0) (.slice none 0 0)
   refine bodyPost_ret (results_cell_row rfl _ _ w.heap.size 37 #[.int .i64 0, .string ⟨#[]⟩, .slice none 0 0, .slice none 0 0] (0, 0) _ rfl hst.1 Tryz.underlying37 rfl p8z) rfl ?_
   refine ⟨⟨0, ⟨#[]⟩, [], []⟩, _, _, y, m + 1, y, 5, rfl, Kd.R_nil _ _ _ _ _, Kd.R_nil _ _ _ _ _, hst.2, ⟨by omega, hyb.2⟩, ?_⟩
   first | (show RGood h (nodeF s (k + 1) x m (D : Int)) _ _ _ _ _) | (show (if (0 : Int) = 0 then RGood h (nodeF s (k + 1) x m (D : Int)) _ _ _ _ _ else _); rw [if_pos rfl])
   rw [HN.out]
   exact ⟨rfl, rfl, by decide⟩
  have hnode : nodeF s (k + 1) x m (D : Int) = (match wayF (nodeF s k) s c y (m + 1) ((D : Int) + 1) with
   | .error e => .error e
   | .ok (nd, z, m, d) => .ok (nd, z, m, d - 1)) := by
   rw [nodeF]
   simp only
   rw [hy, hcn, if_pos hw, if_neg lim]
   rcases wayF (nodeF s k) s c y (m + 1) ((D : Int) + 1) with q | ⟨a, b, q, d⟩ <;> rfl
  have l1b : decide (4000 < m + 1) = false := decide_eq_false (by omega)
  have l2b : decide (60 < (D : Int) + 1) = false := decide_eq_false (by omega)
  go_upto_region 12 with (fail)
  clear q2 l1b l2b
  by_cases c0 : c = 110
  ·subst c0
   have HN := Aside0.mk hnode
   clear hnode
   have hcw := rword_calls (⟨#[110, 117, 108, 108]⟩ : ByteArray) (by decide) hz hs6.1 hs6.2.1 (by omega) hyb.2
   obtain ⟨ws, hws⟩ : ∃ ws, wordS s y h 0 (bytesOf ⟨#[110, 117, 108, 108]⟩) = ws := ⟨_, rfl⟩
   rw [hws] at hcw
   go_wp2_with (go_at_call 80; refine hcw.mono ?_; rintro e_ w8 ⟨rfl, hs8⟩; have hb8 := hs8.2.2.blk hb6 hne (by simp); have hs9 : RKept w0 w w8 g s ws.1 (m + 1) ws.2.1 ws.2.2 := ⟨hs8.1, hs8.2.1, hs6.2.2.trans hs8.2.2 (.inl rfl)⟩; clear hs8; have f0 := blk_frozen hb8 0; have f1 := blk_frozen hb8 1; have f2 := blk_frozen hb8 2; have f3 := blk_frozen hb8 3; have z0 := cell_of (i := 0) hb8 rfl; have z1 := cell_of (i := 1) hb8 rfl; have z2 := cell_of (i := 2) hb8 rfl; have z3 := cell_of (i := 3) hb8 rfl)
   have hst := rstored hs9 hb8 hne (Nat.le_refl _) hge (.int .i64 1) (.string ⟨#[]⟩) (.slice none 0 0) (.slice none 0 0)
   refine bodyPost_ret (results_cell_row rfl _ _ w.heap.size 37 #[.int .i64 1, .string ⟨#[]⟩, .slice none 0 0, .slice none 0 0] (0, 0) _ rfl hst.1 Tryz.underlying37 rfl p8z) rfl ?_
   refine ⟨⟨1, ⟨#[]⟩, [], []⟩, _, _, ws.1, m + 1, ws.2.1, ws.2.2, rfl, Kd.R_nil _ _ _ _ _, Kd.R_nil _ _ _ _ _, hst.2, wordS_bd (by omega) hyb.2 hws, ?_⟩
   first | (show RGood h (nodeF s (k + 1) x m (D : Int)) _ _ _ _ _) | (show (if (0 : Int) = 0 then RGood h (nodeF s (k + 1) x m (D : Int)) _ _ _ _ _ else _); rw [if_pos rfl])
   rw [HN.out]
   exact leaf_good 1 (m + 1) ((D : Int) + 1) hws
  have d0 : (c == 110) = false := beq_eq_false_iff_ne.mpr c0
  by_cases c1 : c = 102
  ·subst c1
   have HN := Aside0.mk hnode
   clear hnode
   have hcw := rword_calls (⟨#[102, 97, 108, 115, 101]⟩ : ByteArray) (by decide) hz hs6.1 hs6.2.1 (by omega) hyb.2
   obtain ⟨ws, hws⟩ : ∃ ws, wordS s y h 0 (bytesOf ⟨#[102, 97, 108, 115, 101]⟩) = ws := ⟨_, rfl⟩
   rw [hws] at hcw
   go_wp2_with (go_at_call 80; refine hcw.mono ?_; rintro e_ w8 ⟨rfl, hs8⟩; have hb8 := hs8.2.2.blk hb6 hne (by simp); have hs9 : RKept w0 w w8 g s ws.1 (m + 1) ws.2.1 ws.2.2 := ⟨hs8.1, hs8.2.1, hs6.2.2.trans hs8.2.2 (.inl rfl)⟩; clear hs8; have f0 := blk_frozen hb8 0; have f1 := blk_frozen hb8 1; have f2 := blk_frozen hb8 2; have f3 := blk_frozen hb8 3; have z0 := cell_of (i := 0) hb8 rfl; have z1 := cell_of (i := 1) hb8 rfl; have z2 := cell_of (i := 2) hb8 rfl; have z3 := cell_of (i := 3) hb8 rfl)
   have hst := rstored hs9 hb8 hne (Nat.le_refl _) hge (.int .i64 2) (.string ⟨#[]⟩) (.slice none 0 0) (.slice none 0 0)
   refine bodyPost_ret (results_cell_row rfl _ _ w.heap.size 37 #[.int .i64 2, .string ⟨#[]⟩, .slice none 0 0, .slice none 0 0] (0, 0) _ rfl hst.1 Tryz.underlying37 rfl p8z) rfl ?_
   refine ⟨⟨2, ⟨#[]⟩, [], []⟩, _, _, ws.1, m + 1, ws.2.1, ws.2.2, rfl, Kd.R_nil _ _ _ _ _, Kd.R_nil _ _ _ _ _, hst.2, wordS_bd (by omega) hyb.2 hws, ?_⟩
   first | (show RGood h (nodeF s (k + 1) x m (D : Int)) _ _ _ _ _) | (show (if (0 : Int) = 0 then RGood h (nodeF s (k + 1) x m (D : Int)) _ _ _ _ _ else _); rw [if_pos rfl])
   rw [HN.out]
   exact leaf_good 2 (m + 1) ((D : Int) + 1) hws
  have d1 : (c == 102) = false := beq_eq_false_iff_ne.mpr c1
  by_cases c2 : c = 116
  ·subst c2
   have HN := Aside0.mk hnode
   clear hnode
   have hcw := rword_calls (⟨#[116, 114, 117, 101]⟩ : ByteArray) (by decide) hz hs6.1 hs6.2.1 (by omega) hyb.2
   obtain ⟨ws, hws⟩ : ∃ ws, wordS s y h 0 (bytesOf ⟨#[116, 114, 117, 101]⟩) = ws := ⟨_, rfl⟩
   rw [hws] at hcw
   go_wp2_with (go_at_call 80; refine hcw.mono ?_; rintro e_ w8 ⟨rfl, hs8⟩; have hb8 := hs8.2.2.blk hb6 hne (by simp); have hs9 : RKept w0 w w8 g s ws.1 (m + 1) ws.2.1 ws.2.2 := ⟨hs8.1, hs8.2.1, hs6.2.2.trans hs8.2.2 (.inl rfl)⟩; clear hs8; have f0 := blk_frozen hb8 0; have f1 := blk_frozen hb8 1; have f2 := blk_frozen hb8 2; have f3 := blk_frozen hb8 3; have z0 := cell_of (i := 0) hb8 rfl; have z1 := cell_of (i := 1) hb8 rfl; have z2 := cell_of (i := 2) hb8 rfl; have z3 := cell_of (i := 3) hb8 rfl)
   have hst := rstored hs9 hb8 hne (Nat.le_refl _) hge (.int .i64 3) (.string ⟨#[]⟩) (.slice none 0 0) (.slice none 0 0)
   refine bodyPost_ret (results_cell_row rfl _ _ w.heap.size 37 #[.int .i64 3, .string ⟨#[]⟩, .slice none 0 0, .slice none 0 0] (0, 0) _ rfl hst.1 Tryz.underlying37 rfl p8z) rfl ?_
   refine ⟨⟨3, ⟨#[]⟩, [], []⟩, _, _, ws.1, m + 1, ws.2.1, ws.2.2, rfl, Kd.R_nil _ _ _ _ _, Kd.R_nil _ _ _ _ _, hst.2, wordS_bd (by omega) hyb.2 hws, ?_⟩
   first | (show RGood h (nodeF s (k + 1) x m (D : Int)) _ _ _ _ _) | (show (if (0 : Int) = 0 then RGood h (nodeF s (k + 1) x m (D : Int)) _ _ _ _ _ else _); rw [if_pos rfl])
   rw [HN.out]
   exact leaf_good 3 (m + 1) ((D : Int) + 1) hws
  have d2 : (c == 116) = false := beq_eq_false_iff_ne.mpr c2
  by_cases c3 : c = 34
  ·subst c3
   clear hParts
   obtain ⟨o, ho, hcs⟩ := rstr_calls hz hs6.1 hs6.2.1 (by omega) hyb.2
   have hway : wayF (nodeF s k) s 34 y (m + 1) ((D : Int) + 1) = strN s y (m + 1) ((D : Int) + 1) := rfl
   rw [hway, strN] at hnode
   rcases hst0 : strF s y with p | ⟨u, z⟩
   ·rw [hst0] at ho hnode
    have HN := Aside0.mk hnode
    clear hnode
    obtain ⟨y2, rfl, hy2⟩ := ho
    go_wp2_with (go_at_call 81; refine hcs.mono ?_; rintro e_ w8 ⟨rfl, hs8⟩; have hb8 := hs8.2.2.blk hb6 hne (by simp); have hs9 : RKept w0 w w8 g s y2 (m + 1) p 140 := ⟨hs8.1, hs8.2.1, hs6.2.2.trans hs8.2.2 (.inl rfl)⟩; clear hs8; have f0 := blk_frozen hb8 0; have f1 := blk_frozen hb8 1; have f2 := blk_frozen hb8 2; have f3 := blk_frozen hb8 3; have z0 := cell_of (i := 0) hb8 rfl; have z1 := cell_of (i := 1) hb8 rfl; have z2 := cell_of (i := 2) hb8 rfl; have z3 := cell_of (i := 3) hb8 rfl)
    have hst := rstored hs9 hb8 hne (Nat.le_refl _) hge (.int .i64 5) (.string ⟨#[]⟩) (.slice none 0 0) (.slice none 0 0)
    refine bodyPost_ret (results_cell_row rfl _ _ w.heap.size 37 #[.int .i64 5, .string ⟨#[]⟩, .slice none 0 0, .slice none 0 0] (0, 0) _ rfl hst.1 Tryz.underlying37 rfl p8z) rfl ?_
    refine ⟨⟨5, ⟨#[]⟩, [], []⟩, _, _, y2, m+1, p, 140, rfl, Kd.R_nil _ _ _ _ _, Kd.R_nil _ _ _ _ _, hst.2, hy2, ?_⟩
    first | (show RGood h (nodeF s (k + 1) x m (D : Int)) _ _ _ _ _) | (show (if (0 : Int) = 0 then RGood h (nodeF s (k + 1) x m (D : Int)) _ _ _ _ _ else _); rw [if_pos rfl])
    rw [HN.out]
    exact ⟨rfl, rfl, by decide⟩
   ·rw [hst0] at ho hnode
    obtain rfl : o = (u, s, z, m + 1, h, 0) := ho
    have hzb := strF_bd (by omega) hyb.2 hst0
    have HN := Aside0.mk hnode
    clear hnode
    go_wp2_with (go_at_call 81; refine hcs.mono ?_; rintro e_ w8 ⟨rfl, hs8⟩; have hb8 := hs8.2.2.blk hb6 hne (by simp); have hs9 : RKept w0 w w8 g s z (m + 1) h 0 := ⟨hs8.1, hs8.2.1, hs6.2.2.trans hs8.2.2 (.inl rfl)⟩; clear hs8; have f0 := blk_frozen hb8 0; have f1 := blk_frozen hb8 1; have f2 := blk_frozen hb8 2; have f3 := blk_frozen hb8 3; have z0 := cell_of (i := 0) hb8 rfl; have z1 := cell_of (i := 1) hb8 rfl; have z2 := cell_of (i := 2) hb8 rfl; have z3 := cell_of (i := 3) hb8 rfl)
    have hst := rstored hs9 hb8 hne (Nat.le_refl _) hge (.int .i64 5) (.string u) (.slice none 0 0) (.slice none 0 0)
    refine bodyPost_ret (results_cell_row rfl _ _ w.heap.size 37 #[.int .i64 5, .string u, .slice none 0 0, .slice none 0 0] (0, 0) _ rfl hst.1 Tryz.underlying37 rfl p8z) rfl ?_
    refine ⟨⟨5, u, [], []⟩, _, _, z, m+1, h, 0, rfl, Kd.R_nil _ _ _ _ _, Kd.R_nil _ _ _ _ _, hst.2, ⟨by omega, hzb.2⟩, ?_⟩
    first | (show RGood h (nodeF s (k + 1) x m (D : Int)) _ _ _ _ _) | (show (if (0 : Int) = 0 then RGood h (nodeF s (k + 1) x m (D : Int)) _ _ _ _ _ else _); rw [if_pos rfl])
    rw [HN.out]
    exact ⟨rfl, rfl, rfl, rfl, rfl⟩
  have d3 : (c == 34) = false := beq_eq_false_iff_ne.mpr c3
  by_cases c4 : c = 91
  ·subst c4
   have HN := Aside0.mk hnode
   clear hnode
   have hyl : y < (s.size : Int) := by
    have h9 := hcn
    unfold nowF at h9
    split at h9
    ·exact absurd h9 (by decide)
    ·omega
   have hp := hParts 6 93 w6 y (m + 1) (by decide) (by omega) hs6.1 hs6.2.1 (by omega) hyl (by omega) (by omega)
   have hp : Calls Tryz.prog 82 #[.pointer (some ⟨g, 0, none⟩), .int .i64 ((D : Int) + 1), .int .i64 6, .string ⟨#[93]⟩] w6 fun e_ w' => RNOut w0 w6 w' g s (RGood h (partsF (nodeF s k) s 6 93 y (m + 1) ((D : Int) + 1))) e_ := hp
   have hlt := blk_lt hb6
   clear hParts
   go_wp2_with (go_at_call 82; refine hp.mono ?_; rintro e_ w8 ⟨nd, v2, v3, x9, m9, h9, e9, rfl, hr2, hr3, hs8, hx9, hg9⟩; obtain ⟨A2, a2, rfl⟩ := Kd.R_slice hr2; obtain ⟨A3, a3, rfl⟩ := Kd.R_slice hr3; have hb8 := hs8.2.2.blk hb6 hne (by simp); have hs9 : RKept w0 w w8 g s x9 m9 h9 e9 := ⟨hs8.1, hs8.2.1, hs6.2.2.trans hs8.2.2 (.inl rfl)⟩; clear hs8; have f0 := blk_frozen hb8 0; have f1 := blk_frozen hb8 1; have f2 := blk_frozen hb8 2; have f3 := blk_frozen hb8 3; have z0 := cell_of (i := 0) hb8 rfl; have z1 := cell_of (i := 1) hb8 rfl; have z2 := cell_of (i := 2) hb8 rfl; have z3 := cell_of (i := 3) hb8 rfl)
   have hst := rstored hs9 hb8 hne (Nat.le_refl _) hge (.int .i64 nd.f0) (.string nd.f1) (.slice A2 nd.f2.length a2) (.slice A3 nd.f3.length a3)
   refine bodyPost_ret (results_cell_row rfl _ _ w.heap.size 37 #[.int .i64 nd.f0, .string nd.f1, .slice A2 nd.f2.length a2, .slice A3 nd.f3.length a3] (0, 0) _ rfl hst.1 Tryz.underlying37 rfl p8z) rfl ?_
   refine ⟨nd, _, _, x9, m9, h9, e9, rfl, Kd.R_lower (R_far4 hr2 hlt _ _ _ _) (Nat.le_of_lt hlt), Kd.R_lower (R_far4 hr3 hlt _ _ _ _) (Nat.le_of_lt hlt), hst.2, hx9, ?_⟩
   first | (show RGood h (nodeF s (k + 1) x m (D : Int)) _ _ _ _ _) | (show (if (0 : Int) = 0 then RGood h (nodeF s (k + 1) x m (D : Int)) _ _ _ _ _ else _); rw [if_pos rfl])
   rw [HN.out]
   exact parts_good (show wayF (nodeF s k) s 91 y (m + 1) ((D : Int) + 1) = partsF (nodeF s k) s 6 93 y (m + 1) ((D : Int) + 1) from rfl) hg9
  have d4 : (c == 91) = false := beq_eq_false_iff_ne.mpr c4
  by_cases c5 : c = 123
  ·subst c5
   have HN := Aside0.mk hnode
   clear hnode
   have hyl : y < (s.size : Int) := by
    have h9 := hcn
    unfold nowF at h9
    split at h9
    ·exact absurd h9 (by decide)
    ·omega
   have hp := hParts 7 125 w6 y (m + 1) (by decide) (by omega) hs6.1 hs6.2.1 (by omega) hyl (by omega) (by omega)
   have hp : Calls Tryz.prog 82 #[.pointer (some ⟨g, 0, none⟩), .int .i64 ((D : Int) + 1), .int .i64 7, .string ⟨#[125]⟩] w6 fun e_ w' => RNOut w0 w6 w' g s (RGood h (partsF (nodeF s k) s 7 125 y (m + 1) ((D : Int) + 1))) e_ := hp
   have hlt := blk_lt hb6
   clear hParts
   go_wp2_with (go_at_call 82; refine hp.mono ?_; rintro e_ w8 ⟨nd, v2, v3, x9, m9, h9, e9, rfl, hr2, hr3, hs8, hx9, hg9⟩; obtain ⟨A2, a2, rfl⟩ := Kd.R_slice hr2; obtain ⟨A3, a3, rfl⟩ := Kd.R_slice hr3; have hb8 := hs8.2.2.blk hb6 hne (by simp); have hs9 : RKept w0 w w8 g s x9 m9 h9 e9 := ⟨hs8.1, hs8.2.1, hs6.2.2.trans hs8.2.2 (.inl rfl)⟩; clear hs8; have f0 := blk_frozen hb8 0; have f1 := blk_frozen hb8 1; have f2 := blk_frozen hb8 2; have f3 := blk_frozen hb8 3; have z0 := cell_of (i := 0) hb8 rfl; have z1 := cell_of (i := 1) hb8 rfl; have z2 := cell_of (i := 2) hb8 rfl; have z3 := cell_of (i := 3) hb8 rfl)
   have hst := rstored hs9 hb8 hne (Nat.le_refl _) hge (.int .i64 nd.f0) (.string nd.f1) (.slice A2 nd.f2.length a2) (.slice A3 nd.f3.length a3)
   refine bodyPost_ret (results_cell_row rfl _ _ w.heap.size 37 #[.int .i64 nd.f0, .string nd.f1, .slice A2 nd.f2.length a2, .slice A3 nd.f3.length a3] (0, 0) _ rfl hst.1 Tryz.underlying37 rfl p8z) rfl ?_
   refine ⟨nd, _, _, x9, m9, h9, e9, rfl, Kd.R_lower (R_far4 hr2 hlt _ _ _ _) (Nat.le_of_lt hlt), Kd.R_lower (R_far4 hr3 hlt _ _ _ _) (Nat.le_of_lt hlt), hst.2, hx9, ?_⟩
   first | (show RGood h (nodeF s (k + 1) x m (D : Int)) _ _ _ _ _) | (show (if (0 : Int) = 0 then RGood h (nodeF s (k + 1) x m (D : Int)) _ _ _ _ _ else _); rw [if_pos rfl])
   rw [HN.out]
   exact parts_good (show wayF (nodeF s k) s 123 y (m + 1) ((D : Int) + 1) = partsF (nodeF s k) s 7 125 y (m + 1) ((D : Int) + 1) from rfl) hg9
  have d5 : (c == 123) = false := beq_eq_false_iff_ne.mpr c5
  clear hParts
  obtain ⟨o, ho, hcs⟩ := rnum_calls (m + 1) ((D : Int) + 1) hz hs6.1 hs6.2.1 (by omega) hyb.2
  have hway : wayF (nodeF s k) s c y (m + 1) ((D : Int) + 1) = numberF s y (m + 1) ((D : Int) + 1) := by
   unfold wayF
   rw [if_neg c0, if_neg c1, if_neg c2, if_neg c3, if_neg c4, if_neg c5]
  rcases hst0 : numberF s y (m + 1) ((D : Int) + 1) with ⟨p, q⟩ | ⟨nn, z, mz, dz⟩
  ·have hq : q = 140 := numF_err hst0
   subst hq
   rw [hway, hst0] at hnode
   rw [hst0] at ho
   have HN := Aside0.mk hnode
   clear hnode
   obtain ⟨y2, rfl, hy2⟩ := ho
   go_wp2_with (go_at_call 83; refine hcs.mono ?_; rintro e_ w8 ⟨rfl, hs8⟩; have hb8 := hs8.2.2.blk hb6 hne (by simp); have hs9 : RKept w0 w w8 g s y2 (m + 1) p 140 := ⟨hs8.1, hs8.2.1, hs6.2.2.trans hs8.2.2 (.inl rfl)⟩; clear hs8; have f0 := blk_frozen hb8 0; have f1 := blk_frozen hb8 1; have f2 := blk_frozen hb8 2; have f3 := blk_frozen hb8 3; have z0 := cell_of (i := 0) hb8 rfl; have z1 := cell_of (i := 1) hb8 rfl; have z2 := cell_of (i := 2) hb8 rfl; have z3 := cell_of (i := 3) hb8 rfl)
   have hst := rstored hs9 hb8 hne (Nat.le_refl _) hge (.int .i64 4) (.string ⟨#[]⟩) (.slice none 0 0) (.slice none 0 0)
   refine bodyPost_ret (results_cell_row rfl _ _ w.heap.size 37 #[.int .i64 4, .string ⟨#[]⟩, .slice none 0 0, .slice none 0 0] (0, 0) _ rfl hst.1 Tryz.underlying37 rfl p8z) rfl ?_
   refine ⟨⟨4, ⟨#[]⟩, [], []⟩, _, _, y2, m+1, p, 140, rfl, Kd.R_nil _ _ _ _ _, Kd.R_nil _ _ _ _ _, hst.2, hy2, ?_⟩
   first | (show RGood h (nodeF s (k + 1) x m (D : Int)) _ _ _ _ _) | (show (if (0 : Int) = 0 then RGood h (nodeF s (k + 1) x m (D : Int)) _ _ _ _ _ else _); rw [if_pos rfl])
   rw [HN.out]
   exact ⟨rfl, rfl, by decide⟩
  ·have hzb := wayF_goes (nodeF_goes s k ((D : Int) + 1)) hcn (by omega) hyb.2 (by omega) (by omega) (hway.trans hst0)
   obtain ⟨hn1, hn2⟩ := numF_ok hst0
   subst hn2
   rw [hway, hst0] at hnode
   rw [hst0] at ho
   obtain rfl : o = (nn.f1, s, z, m + 1, h, 0) := ho
   obtain ⟨q0, q1, q2, q3⟩ := nn
   obtain ⟨rfl, rfl, rfl⟩ := hn1
   have HN := Aside0.mk hnode
   clear hnode
   go_wp2_with (go_at_call 83; refine hcs.mono ?_; rintro e_ w8 ⟨rfl, hs8⟩; have hb8 := hs8.2.2.blk hb6 hne (by simp); have hs9 : RKept w0 w w8 g s z (m + 1) h 0 := ⟨hs8.1, hs8.2.1, hs6.2.2.trans hs8.2.2 (.inl rfl)⟩; clear hs8; have f0 := blk_frozen hb8 0; have f1 := blk_frozen hb8 1; have f2 := blk_frozen hb8 2; have f3 := blk_frozen hb8 3; have z0 := cell_of (i := 0) hb8 rfl; have z1 := cell_of (i := 1) hb8 rfl; have z2 := cell_of (i := 2) hb8 rfl; have z3 := cell_of (i := 3) hb8 rfl)
   have hst := rstored hs9 hb8 hne (Nat.le_refl _) hge (.int .i64 4) (.string q1) (.slice none 0 0) (.slice none 0 0)
   refine bodyPost_ret (results_cell_row rfl _ _ w.heap.size 37 #[.int .i64 4, .string q1, .slice none 0 0, .slice none 0 0] (0, 0) _ rfl hst.1 Tryz.underlying37 rfl p8z) rfl ?_
   refine ⟨⟨4, q1, [], []⟩, _, _, z, m+1, h, 0, rfl, Kd.R_nil _ _ _ _ _, Kd.R_nil _ _ _ _ _, hst.2, ⟨by omega, hzb.2.1⟩, ?_⟩
   first | (show RGood h (nodeF s (k + 1) x m (D : Int)) _ _ _ _ _) | (show (if (0 : Int) = 0 then RGood h (nodeF s (k + 1) x m (D : Int)) _ _ _ _ _ else _); rw [if_pos rfl])
   rw [HN.out]
   exact ⟨rfl, rfl, rfl, rfl, rfl⟩
end Go.Proofs.YtodnggilomanbaaGreatDoor.Hand
end
section
set_option maxRecDepth 100000
set_option maxHeartbeats 8000000
namespace Go.Proofs.YtodnggilomanbaaGreatDoor.Hand
open Go.RowKit Go.Lib Go.Proofs.YtodnggilomanbaaGreatDoor.PAll Go.Proofs.YtodnggilomanbaaGreatDoorW.PrintWords Go.Proofs.YtodnggilomanbaaGreatDoorW.PrintLast Go.Proofs.YtodnggilomanbaaGreatDoorW.PrintMore Go.Proofs.YtodnggilomanbaaGreatDoor.Pure
set_option linter.unusedVariables false
set_option linter.unusedSimpArgs false

theorem RKept.drew {w0 w W : World} {g : Nat} {s : ByteArray} {x m h e : Int} (hs : RKept w0 w W g s x m h e) : RKept w0 w W.drew g s x m h e := ⟨hs.1.drew, below_drew1 hs.2.1, keep_drew hs.2.2⟩
theorem RKept.trans {w0 w W W' : World} {g : Nat} {s : ByteArray} {x m h e x' m' h' e' : Int} (hs : RKept w0 w W g s x m h e) (h2 : RKept w0 W W' g s x' m' h' e') : RKept w0 w W' g s x' m' h' e' := ⟨h2.1, h2.2.1, hs.2.2.trans h2.2.2 (.inl rfl)⟩
theorem RKept.at_ {w0 w W : World} {g : Nat} {s : ByteArray} {x m h e : Int} (hs : RKept w0 w W g s x m h e) (y : Int) : RKept w0 w (W.setCell ⟨g, 1, none⟩ (.int .i64 y)) g s y m h e := ⟨hs.1.set_1 y, below_set hs.2.1 hs.1.ge, KeepBut.set_ hs.2.2 1 _⟩
structure QRel (w0 w W : World) (g : Nat) (s : ByteArray) (kind : Int) (keys : List ByteArray) (L : List S37) (z m h e : Int) (v2 v3 : Value) : Prop where
  r2 : Kd.R Kd.string 9 W w.heap.size (fun _ => True) v2 keys
  r3 : Kd.R k37 37 W w.heap.size (fun k_ => some k_ ≠ v2.ownBlock ∧ k_ ≠ w.heap.size ∧ k_ ≠ w.heap.size + 1) v3 L
  b1 : W.heap[w.heap.size]? = some (.cells zcells 37 (0, 0))
  b2 : W.heap[w.heap.size + 1]? = some (.cells #[.int .i64 kind, .string ⟨#[]⟩, v2, v3] 37 (0, 0))
  st : RKept w0 w W g s z m h e
  z0 : 0 ≤ z
  z1 : z ≤ (s.size : Int)
theorem QRel.keep {w0 w W W' : World} {g : Nat} {s : ByteArray} {kind : Int} {keys : List ByteArray} {L : List S37} {z m h e z' m' h' e' : Int} {v2 v3 : Value} (hQ : QRel w0 w W g s kind keys L z m h e v2 v3) (hn1 : w.heap.size ≠ g) (hn2 : w.heap.size + 1 ≠ g) (hs : RKept w0 W W' g s z' m' h' e') (z0 : 0 ≤ z') (z1 : z' ≤ (s.size : Int)) : QRel w0 w W' g s kind keys L z' m' h' e' v2 v3 :=
  ⟨Kd.R_mono (Kd.R_keep (IsS95.apart hQ.st.1 hQ.r2 (by decide)) hs.2.2 (fun _ hh => hh.2)) (fun _ _ => trivial), Kd.R_mono (Kd.R_keep (IsS95.apart hQ.st.1 hQ.r3 (by decide)) hs.2.2 (fun _ hh => hh.2)) (fun _ hh => hh.1), hs.2.2.blk hQ.b1 hn1 (by simp), hs.2.2.blk hQ.b2 hn2 (by simp), hQ.st.trans hs, z0, z1⟩
theorem wordS_bd2 {s : ByteArray} {x h e : Int} {t : List Int} {ws : Int × Int × Int} (h0 : 0 ≤ x) (h1 : x ≤ (s.size : Int)) (hw : wordS s x h e t = ws) : 0 ≤ ws.1 ∧ ws.1 ≤ (s.size : Int) := by
 by_cases he : e = 0
 case pos =>
  subst he
  exact wordS_bd h0 h1 hw
 unfold wordS at hw
 rw [if_neg he] at hw
 rw [← hw]
 exact ⟨h0, h1⟩
theorem QRel.out2 {w0 w W : World} {g : Nat} {s : ByteArray} {kind : Int} {keys : List ByteArray} {L : List S37} {z m h e : Int} {v2 v3 : Value} (hQ : QRel w0 w W g s kind keys L z m h e v2 v3) (u0 u1 u2 u3 : Value) : Kd.R Kd.string 9 ((((W.setCell ⟨w.heap.size, 0, none⟩ u0).setCell ⟨w.heap.size, 1, none⟩ u1).setCell ⟨w.heap.size, 2, none⟩ u2).setCell ⟨w.heap.size, 3, none⟩ u3) w.heap.size (fun _ => True) v2 keys :=
  Kd.R_mono (Kd.R_far (p := ⟨w.heap.size, 3, none⟩) (Kd.R_far (p := ⟨w.heap.size, 2, none⟩) (Kd.R_far (p := ⟨w.heap.size, 1, none⟩) (Kd.R_far (p := ⟨w.heap.size, 0, none⟩) (Kd.R_types hQ.r2 hQ.b1 (by decide)) (fun _ hk => hk.2) u0) (fun _ hk => hk.2) u1) (fun _ hk => hk.2) u2) (fun _ hk => hk.2) u3) (fun _ _ => trivial)
theorem QRel.out3 {w0 w W : World} {g : Nat} {s : ByteArray} {kind : Int} {keys : List ByteArray} {L : List S37} {z m h e : Int} {v2 v3 : Value} (hQ : QRel w0 w W g s kind keys L z m h e v2 v3) (u0 u1 u2 u3 : Value) : Kd.R k37 37 ((((W.setCell ⟨w.heap.size, 0, none⟩ u0).setCell ⟨w.heap.size, 1, none⟩ u1).setCell ⟨w.heap.size, 2, none⟩ u2).setCell ⟨w.heap.size, 3, none⟩ u3) w.heap.size (fun k_ => some k_ ≠ v2.ownBlock) v3 L :=
  Kd.R_mono (Kd.R_far (p := ⟨w.heap.size, 3, none⟩) (Kd.R_far (p := ⟨w.heap.size, 2, none⟩) (Kd.R_far (p := ⟨w.heap.size, 1, none⟩) (Kd.R_far (p := ⟨w.heap.size, 0, none⟩) hQ.r3 (fun _ hk => hk.2.1) u0) (fun _ hk => hk.2.1) u1) (fun _ hk => hk.2.1) u2) (fun _ hk => hk.2.1) u3) (fun _ hk => hk.1)
/-- The loop's two modes: all is well, and what is left of the list is read; or there was an error. -/
def RMode (s : ByteArray) (h : Int) (NF : NodeFn) (kind : Int) (D : Nat) (RL : Except (Int × Int) (List ByteArray × List S28 × Int × Int × Int)) (kq : Nat) (keys : List ByteArray) (L : List S28) (L' : List S37) (z m' h' e' : Int) : Prop :=
  (e' = 0 ∧ h' = h ∧ partsL NF s kind kq keys L z m' (D : Int) = RL ∧ L' = toRL L ∧ (s.size : Int) - z < kq ∧ (keys.length : Int) ≤ z ∧ (L'.length : Int) ≤ z ∧ 0 ≤ m' ∧ m' ≤ 4000) ∨ (e' ≠ 0 ∧ RL = .error (h', e'))
theorem rbT {i e : Int} {l : Nat} (h : i < (l : Int)) : decide (i < (l : Int) ∧ e = 0) = (e == 0) := by
 by_cases he : e = 0
 case pos =>
  rw [decide_eq_true ⟨h, he⟩, beq_iff_eq.mpr he]
 rw [decide_eq_false (fun h9 => he h9.2), beq_eq_false_iff_ne.mpr he]
theorem rbF {i e : Int} {l : Nat} (h : ¬ i < (l : Int)) : decide (i < (l : Int) ∧ e = 0) = false := decide_eq_false (fun h9 => h h9.1)
theorem by_list {a b : ByteArray} (h : a.toList = b.toList) : a = b := by
  apply ByteArray.ext
  apply Array.toList_inj.1
  rw [← ByteArray.toList_eq, ← ByteArray.toList_eq, h]
theorem rd_mem {keys : List ByteArray} {key : ByteArray} {i : Int} (hlt : i.toNat < keys.length) (h : (rdOf ByteArray.empty keys i).toList = key.toList) : key ∈ keys := by
  rw [← by_list h]
  unfold rdOf
  rw [List.getD_eq_getElem?_getD, List.getElem?_eq_getElem hlt]
  exact List.getElem_mem hlt
theorem take_not {keys : List ByteArray} {key : ByteArray} {i : Int} (i0 : 0 ≤ i) (hlt : i.toNat < keys.length) (hn : key ∉ keys.take i.toNat) (h : ¬ (rdOf ByteArray.empty keys i).toList = key.toList) : key ∉ keys.take (i + 1).toNat := by
 rw [show (i + 1).toNat = i.toNat + 1 by omega, List.take_add_one, List.getElem?_eq_getElem hlt]
 intro hin
 rcases List.mem_append.mp hin with h1 | h1
 ·exact hn h1
 ·apply h
  unfold rdOf
  rw [List.getD_eq_getElem?_getD, List.getElem?_eq_getElem hlt]
  simp at h1
  rw [h1]
  rfl
theorem QRel.drew {w0 w W : World} {g : Nat} {s : ByteArray} {kind : Int} {keys : List ByteArray} {L : List S37} {z m h e : Int} {v2 v3 : Value} (hQ : QRel w0 w W g s kind keys L z m h e v2 v3) : QRel w0 w W.drew g s kind keys L z m h e v2 v3 :=
  ⟨Kd.R_drew hQ.r2, Kd.R_drew hQ.r3, blk_drew hQ.b1, blk_drew hQ.b2, hQ.st.drew, hQ.z0, hQ.z1⟩
theorem QRel.app2 {w0 w W w1 : World} {g : Nat} {s : ByteArray} {kind : Int} {keys keys' : List ByteArray} {L : List S37} {z m h e : Int} {v2 v3 v2' : Value} (hQ : QRel w0 w W g s kind keys L z m h e v2 v3) (hge : w0.heap.size ≤ w.heap.size) (hn2 : w.heap.size + 1 ≠ g)
 (ho : Kd.R Kd.string 9 w1 w.heap.size (fun _ => True) v2' keys') (hb : Below w.heap.size W w1) (hg : W.grownBy w1 v2.ownBlock) (hat : v2'.ownBlock = v2.ownBlock ∨ ∃ b, v2'.ownBlock = some b ∧ W.heap.size ≤ b) :
 QRel w0 w (w1.setCell ⟨w.heap.size + 1, 2, none⟩ v2') g s kind keys' L z m h e v2' v3 := by
 have b1 := blk_grown hQ.b1 hg (Kd.R_ne hQ.r2 hQ.b1 (by decide))
 have b2 := blk_grown hQ.b2 hg (Kd.R_ne hQ.r2 hQ.b2 (by decide))
 have r3 := Kd.R_after (ok := fun k_ => k_ ≠ w.heap.size ∧ k_ ≠ w.heap.size + 1) (Kd.R_mono hQ.r3 (fun _ hk => ⟨⟨hk.2.1, hk.2.2⟩, hk.1⟩)) hg hat
 refine ⟨?_, ?_, ?_, blk_put (cs := #[.int .i64 kind, .string ⟨#[]⟩, v2, v3]) b2 2 _ rfl, ⟨?_, ?_, ?_⟩, hQ.z0, hQ.z1⟩
 ·exact Kd.R_mono (Kd.R_far (p := ⟨w.heap.size + 1, 2, none⟩) (Kd.R_types ho b2 (by decide)) (fun _ hk => hk.2) v2') (fun _ _ => trivial)
 ·exact Kd.R_mono (Kd.R_far (p := ⟨w.heap.size + 1, 2, none⟩) r3 (fun _ hk => hk.1.2) v2') (fun _ hk => ⟨hk.2, hk.1.1, hk.1.2⟩)
 ·exact blk_far (p := ⟨w.heap.size + 1, 2, none⟩) b1 (by show w.heap.size ≠ w.heap.size + 1; omega) v2'
 ·exact (IsS95.grown hQ.st.1 hg (IsS95.own_ne hQ.st.1 hQ.r2 (by decide))).far hn2.symm v2'
 ·exact below_set (below_weaken hQ.st.2.1 hge hb) (Nat.le_succ_of_le hge)
 ·exact keep_far (KeepBut.trans hQ.st.2.2 (KeepBut.of_grown hg g) (Kd.R_base2 hQ.r2)) (Nat.le_succ _) _
theorem QRel.app3 {w0 w W w1 : World} {g : Nat} {s : ByteArray} {kind : Int} {keys : List ByteArray} {L L' : List S37} {z m h e : Int} {v2 v3 v3' : Value} (hQ : QRel w0 w W g s kind keys L z m h e v2 v3) (hge : w0.heap.size ≤ w.heap.size) (hn2 : w.heap.size + 1 ≠ g)
 (ho : Kd.R k37 37 w1 w.heap.size (fun k_ => some k_ ≠ v2.ownBlock ∧ k_ ≠ w.heap.size ∧ k_ ≠ w.heap.size + 1) v3' L') (hb : Below w.heap.size W w1) (hg : W.grownBy w1 v3.ownBlock) :
 QRel w0 w (w1.setCell ⟨w.heap.size + 1, 3, none⟩ v3') g s kind keys L' z m h e v2 v3' := by
 have b1 := blk_grown hQ.b1 hg (Kd.R_away hQ.r3 (fun _ hk => hk.2.1))
 have b2 := blk_grown hQ.b2 hg (Kd.R_away hQ.r3 (fun _ hk => hk.2.2))
 have r2 := Kd.R_over' hQ.r2 (Kd.R_typed hQ.r3) (by decide) hg
 refine ⟨?_, ?_, ?_, blk_put (cs := #[.int .i64 kind, .string ⟨#[]⟩, v2, v3]) b2 3 _ rfl, ⟨?_, ?_, ?_⟩, hQ.z0, hQ.z1⟩
 ·exact Kd.R_mono (Kd.R_far (p := ⟨w.heap.size + 1, 3, none⟩) (Kd.R_types r2 b2 (by decide)) (fun _ hk => hk.2) v3') (fun _ _ => trivial)
 ·exact Kd.R_far (p := ⟨w.heap.size + 1, 3, none⟩) ho (fun _ hk => hk.2.2) v3'
 ·exact blk_far (p := ⟨w.heap.size + 1, 3, none⟩) b1 (by show w.heap.size ≠ w.heap.size + 1; omega) v3'
 ·exact (IsS95.grown hQ.st.1 hg (IsS95.own_ne hQ.st.1 hQ.r3 (by decide))).far hn2.symm v3'
 ·exact below_set (below_weaken hQ.st.2.1 hge hb) (Nat.le_succ_of_le hge)
 ·exact keep_far (KeepBut.trans hQ.st.2.2 (KeepBut.of_grown hg g) (Kd.R_base2 hQ.r3)) (Nat.le_succ _) _
theorem QRel.elem {w0 w W W' : World} {g : Nat} {s : ByteArray} {kind : Int} {keys : List ByteArray} {L : List S37} {z m h e : Int} {v2 v3 u2 u3 : Value} {nd : S37} (hQ : QRel w0 w W g s kind keys L z m h e v2 v3)
    (h2 : Kd.R Kd.string 9 W' W.heap.size (fun _ => True) u2 nd.f2) (h3 : Kd.R k37 37 W' W.heap.size (fun k_ => some k_ ≠ u2.ownBlock) u3 nd.f3) :
    k37.M W' w.heap.size (fun k_ => (some k_ ≠ v2.ownBlock ∧ k_ ≠ w.heap.size ∧ k_ ≠ w.heap.size + 1) ∧ some k_ ≠ v3.ownBlock) nd [.int .i64 nd.f0, .string nd.f1, u2, u3] :=
  k37_mkM _ _ _ nd (Kd.R_mono (Kd.R_lower (Kd.R_new' (Kd.R_newB (Kd.R_newB (Kd.R_new' h2 (Kd.R_lt hQ.r2)) hQ.b1) hQ.b2) (Kd.R_lt hQ.r3)) (keep_size hQ.st.2.2)) (fun _ hk => ⟨⟨hk.1.1.1.2, hk.1.1.2, hk.1.2⟩, hk.2⟩))
    (Kd.R_mono (Kd.R_lower (Kd.R_new' (Kd.R_newB (Kd.R_newB (Kd.R_new' h3 (Kd.R_lt hQ.r2)) hQ.b1) hQ.b2) (Kd.R_lt hQ.r3)) (keep_size hQ.st.2.2)) (fun _ hk => ⟨⟨hk.1.1.1.2, hk.1.1.2, hk.1.2⟩, hk.2⟩))
theorem QRel.fresh {w0 w W : World} {g : Nat} {s : ByteArray} {kind : Int} {keys : List ByteArray} {L : List S37} {z m h e : Int} {v2 v3 : Value} (hQ : QRel w0 w W g s kind keys L z m h e v2 v3) : ∀ k_ : Nat, W.heap.size ≤ k_ → some k_ ≠ v2.ownBlock ∧ k_ ≠ w.heap.size ∧ k_ ≠ w.heap.size + 1 :=
  fun k_ hk => ⟨Kd.fresh' (Kd.R_lt hQ.r2) k_ hk, Kd.freshB hQ.b1 k_ hk, Kd.freshB hQ.b2 k_ hk⟩
theorem QRel.at_ {w0 w W : World} {g : Nat} {s : ByteArray} {kind : Int} {keys : List ByteArray} {L : List S37} {z m h e : Int} {v2 v3 : Value} (hQ : QRel w0 w W g s kind keys L z m h e v2 v3) (hn1 : w.heap.size ≠ g) (hn2 : w.heap.size + 1 ≠ g) (y : Int) (y0 : 0 ≤ y) (y1 : y ≤ (s.size : Int)) : QRel w0 w (W.setCell ⟨g, 1, none⟩ (.int .i64 y)) g s kind keys L y m h e v2 v3 :=
  hQ.keep hn1 hn2 ⟨hQ.st.1.set_1 y, below_set hQ.st.2.1 hQ.st.1.ge, KeepBut.set_ (KeepBut.refl W g none) 1 _⟩ y0 y1
theorem stepK_len {s : ByteArray} {kind x y : Int} {keys keys' : List ByteArray} (h : stepK s kind keys x = .ok (keys', y)) : keys'.length ≤ keys.length + 1 := by
 unfold stepK at h
 split at h
 ·split at h
  ·cases h
   simp
  ·cases h
 ·cases h
  omega
def rparts_T20 : Bool × List (List Nat × List Nat) := (true, [([], []), ([0], [0]), ([], []), ([], []), ([3], [3]), ([2, 4], [2, 4]), ([5], [5]), ([1, 6, 5], [1, 6]), ([0, 1, 2, 3, 4, 5, 6, 7], []), ([8, 7, 7, 0, 1, 2, 3, 4, 5, 6, 7], [7, 8])])
def rparts_B20 : List Nat := [0, 1, 0, 0, 8, 28, 60, 127, 255, 511]
theorem rparts_tab20 : rtab .any (opsOf Tryz.f82 20) = rparts_T20 := p8z
theorem rparts_bits20 : waitsOk rparts_T20.2 rparts_B20 = true := p8z
theorem rparts_step (g : Nat) (s lb : ByteArray) (kind last x m h : Int) (D k : Nat) (w0 w : World) (hz : s.size ≤ 1000) (hkl : (kind = 6 ∧ last = 93) ∨ (kind = 7 ∧ last = 125)) (hlb : bytesOf lb = [last]) (hk : k + D = 61) (hD : D ≤ 60) (hI : IsS95 w0 w g s x m h 0) (hB : Below w0.heap.size w0 w) (h0 : 0 ≤ x) (h1 : x < (s.size : Int)) (m0 : 0 ≤ m) (m1 : m ≤ 4000)
 (hNode : ∀ (W : World) (x2 m2 h2 e2 : Int), IsS95 w0 W g s x2 m2 h2 e2 → Below w0.heap.size w0 W → 0 ≤ x2 → x2 ≤ (s.size : Int) → (e2 = 0 → 0 ≤ m2 ∧ m2 ≤ 4000) →
  Calls Tryz.prog 50 #[.pointer (some ⟨g, 0, none⟩), .int .i64 ((D : Int) + 1)] W fun e_ w' => RNOut w0 W w' g s (fun nd x' m' h' e' => if e2 = 0 then RGood h2 (nodeF s k x2 m2 (D : Int)) nd x' m' h' e' else h' = h2 ∧ e' = e2) e_) :
 Calls Tryz.prog 82 #[.pointer (some ⟨g, 0, none⟩), .int .i64 (D : Int), .int .i64 kind, .string lb] w fun e_ w' => RNOut w0 w w' g s (RGood h (partsF (nodeF s k) s kind last x m (D : Int))) e_ := by
 have hl0 : last ≠ 0 := by omega
 have hlz : lb.size = 1 := by rw [← bytesOf_length, hlb]; rfl
 have hlb0 : bt lb 0 = last := bt_head hlb
 obtain ⟨r, hr⟩ : ∃ r, partsF (nodeF s k) s kind last x m (D : Int) = r := ⟨_, rfl⟩
 rw [hr]
 unfold partsF at hr
 have hb := blanksF_bd (s := s) (x := x + 1) (by omega) (by omega)
 obtain ⟨y, hy⟩ : ∃ y, blanksF s (x + 1) = y := ⟨_, rfl⟩
 rw [hy] at hr hb
 have HR := Aside0.mk hr
 clear hr
 have hwr : wrap64 (x + 1) = x + 1 := w64 (by omega) (by omega)
 go_enter Tryz.func82, Tryz.ntmps82
 go_upto_region 2 with (fail)
 generalize hW2 : World.alloc (World.alloc w _) _ = W2
 have hs2 : RKept w0 w W2 g s x m h 0 := by rw [← hW2]; exact ⟨(hI.alloc _).alloc _, below_alloc (below_alloc hB _) _, keep_alloc (keep_alloc (KeepBut.refl w g none) _) _⟩
 have hb1 : W2.heap[w.heap.size]? = some (.cells zcells 37 (0, 0)) := by rw [← hW2]; exact blk_alloc (heap_alloc_new w _) _
 have hb2 : W2.heap[w.heap.size + 1]? = some (.cells #[.int .i64 kind, .string ⟨#[]⟩, .slice none 0 0, .slice none 0 0] 37 (0, 0)) := by
  rw [← hW2]
  have := heap_alloc_new (w.alloc (.cells zcells 37)) (.cells #[.int .i64 kind, .string ⟨#[]⟩, .slice none 0 0, .slice none 0 0] 37)
  simpa using this
 have hn1 : w.heap.size ≠ g := (Nat.ne_of_lt hI.lt).symm
 have hn2 : w.heap.size + 1 ≠ g := by have := hI.lt; omega
 have hge : w0.heap.size ≤ w.heap.size := hB.size
 clear hW2 hI hB
 obtain ⟨HG, _⟩ := hs2.1
 have q1 := cellS95_1 HG
 have r1 := blk_frozen HG 1
 clear HG
 go_upto_region 3 with (fail)
 have hs3 := hs2.at_ (x + 1)
 have hb13 := blk_far (p := ⟨g, 1, none⟩) hb1 hn1 (.int .i64 (x + 1))
 have hb23 := blk_far (p := ⟨g, 1, none⟩) hb2 hn2 (.int .i64 (x + 1))
 have hbl := rbl_calls hz hs3.1 hs3.2.1 (by omega) (by omega)
 rw [hy] at hbl
 clear hs2 hb1 hb2 q1 r1
 go_upto_region 4 with (go_at_call 51; refine hbl.mono ?_; rintro e_ w4 ⟨rfl, hs4⟩; have hb14 := hs4.2.2.blk hb13 hn1 (by simp); have hb24 := hs4.2.2.blk hb23 hn2 (by simp); have hs5 := hs3.trans hs4; clear hs4)
 clear hbl hs3 hb13 hb23
 have hs6 := hs5.drew
 have hb16 := blk_drew hb14
 have hb26 := blk_drew hb24
 clear hs5 hb14 hb24
 refine start_ (n := 5) (S := fun w' => True) (ds := []) #[false, false, false, false, false] p8z rfl rfl trivial (fun hHeld => ?_)
 generalize w4.drew = w6 at hs6 hb16 hb26 hHeld ⊢
 have qi8 : ((0 : Int) < (lb.size : Int)) = True := eq_true (by omega)
 have qi9 : ((lb[(0 : Int).toNat]'(by rw [hlz]; decide)).toNat : Int) = last := (bt_at lb 0 (by rw [hlz]; decide)).trans hlb0
 have hnw := rnow_calls hs6.1 hs6.2.1 (by omega) hb.2
 obtain ⟨c, hc⟩ : ∃ c, nowF s y = c := ⟨_, rfl⟩
 have hce : nowE s y 0 = c := by unfold nowE; rw [if_pos rfl, hc]
 rw [hce] at hnw
 refine pure_ (i := 0) (N := some 25) (v := ?_) (a' := ?_) #[true, false, false, false, false] rfl rfl p8z (fun _ _ _ h => h) (Or.inl ⟨by rfl, ?_⟩) ?_ ?_
 rotate_left
 ·intro w'
  go_simp
  with_reducible rfl
 rotate_left
 ·simp only [Act.put, List.setIfInBounds_toArray, List.set_cons_zero, List.set_cons_succ, i64_w, i32_w]
  rfl
 refine pure_ (i := 2) (N := some 27) (v := ?_) (a' := ?_) #[true, false, true, false, false] rfl rfl p8z (fun _ _ _ h => h) (Or.inl ⟨by rfl, ?_⟩) ?_ ?_
 rotate_left
 ·intro w'
  go_simp
  with_reducible rfl
 rotate_left
 ·simp only [Act.put, List.setIfInBounds_toArray, List.set_cons_zero, List.set_cons_succ, i64_w, i32_w]
  rfl
 refine take_ (i := 3) (N := some 28) (v := ?_) (a' := ?_) #[true, false, true, true, false] rfl rfl p8z (fun _ _ _ h => h) (Or.inl ⟨by rfl, ?_⟩) hHeld ?_ ?_
 rotate_left
 ·intro w' _
  go_simp
  with_reducible rfl
 rotate_left
 ·simp only [Act.put, List.setIfInBounds_toArray, List.set_cons_zero, List.set_cons_succ, i64_w, i32_w]
  rfl
 refine one_ (i := 1) (N := some 26) #[true, true, true, true, false] rfl rfl p8z (by decide) (fun K hK => ?_)
 refine goes_ Tryz.func79 p8z rfl #[.pointer (some ⟨g, 0, none⟩)] (by rfl) rfl rfl p5z ?_
 refine hnw.mono ?_
 rintro e_ w7 ⟨rfl, hs7⟩
 refine ⟨_, rfl, ?_⟩
 have hb17 := hs7.2.2.blk hb16 hn1 (by simp)
 have hb27 := hs7.2.2.blk hb26 hn2 (by simp)
 have hs8 := hs6.trans hs7
 clear hs7 hs6 hb16 hb26 hnw hHeld
 refine hK.out _ _ trivial (fun hHeld => ?_)
 clear hK K
 refine norm_ (a' := ?_) ?_ ?_
 rotate_left
 ·show Act.put _ (some 26) _ = _
  simp only [Act.put, List.setIfInBounds_toArray, List.set_cons_zero, List.set_cons_succ, i64_w, i32_w]
  rfl
 refine pure_ (i := 4) (N := some 29) (v := ?_) (a' := ?_) #[true, true, true, true, true] rfl rfl p8z (fun _ _ _ h => h) (Or.inl ⟨by rfl, ?_⟩) ?_ ?_
 rotate_left
 ·intro w'
  go_simp
  with_reducible rfl
 rotate_left
 ·simp only [Act.put, List.setIfInBounds_toArray, List.set_cons_zero, List.set_cons_succ, i64_w, i32_w]
  rfl
 refine done_ p8z ?_
 clear hHeld
 have hr := HR.out
 clear HR
 rw [hc] at hr
 have qi10 : ((lb[0]'(by rw [hlz]; decide)).toNat : Int) = last := qi9
 by_cases hlast : c = last
 case pos =>
  rw [if_pos hlast] at hr
  have e1 : (c == ((lb[0]'(by rw [hlz]; decide)).toNat : Int)) = true := by rw [qi10]; exact beq_iff_eq.mpr hlast
  have hyl : y < (s.size : Int) := by
   have h9 := hc
   unfold nowF at h9
   split at h9
   ·omega
   ·omega
  have hw2 : wrap64 (y + 1) = y + 1 := w64 (by omega) (by omega)
  obtain ⟨HG, _⟩ := hs8.1
  have q1 := cellS95_1 HG
  have r1 := blk_frozen HG 1
  clear HG
  have B1 := blk_far (p := ⟨g, 1, none⟩) hb17 hn1 (.int .i64 (y + 1))
  have B2 := blk_far (p := ⟨g, 1, none⟩) hb27 hn2 (.int .i64 (y + 1))
  have hc0 := cell_of (i := 0) B1 rfl
  have hc1 := cell_of (i := 1) B1 rfl
  have hc2 := cell_of (i := 2) B1 rfl
  have hc3 := cell_of (i := 3) B1 rfl
  have hd0 := cell_of (i := 0) B2 rfl
  have hd1 := cell_of (i := 1) B2 rfl
  have hd2 := cell_of (i := 2) B2 rfl
  have hd3 := cell_of (i := 3) B2 rfl
  have he0 := blk_frozen B1 0
  have he1 := blk_frozen B1 1
  have he2 := blk_frozen B1 2
  have he3 := blk_frozen B1 3
  have HB1 := Aside0.mk B1
  have HR := Aside0.mk hr
  clear B1 B2 hr hNode hc hce
  go_wp2
  have hst := rstored (hs8.at_ (y + 1)) HB1.out hn1 (Nat.le_refl _) hge (.int .i64 kind) (.string ⟨#[]⟩) (.slice none 0 0) (.slice none 0 0)
  refine bodyPost_ret (results_cell_row rfl _ _ w.heap.size 37 #[.int .i64 kind, .string ⟨#[]⟩, .slice none 0 0, .slice none 0 0] (0, 0) _ rfl hst.1 Tryz.underlying37 rfl p8z) rfl ?_
  refine ⟨⟨kind, ⟨#[]⟩, [], []⟩, _, _, y + 1, m, h, 0, rfl, Kd.R_nil _ _ _ _ _, Kd.R_nil _ _ _ _ _, hst.2, ⟨by omega, by omega⟩, ?_⟩
  rw [← HR.out]
  exact ⟨rfl, rfl, rfl, rfl, rfl⟩
 rw [if_neg hlast] at hr
 have e1 : (c == ((lb[0]'(by rw [hlz]; decide)).toNat : Int)) = false := by rw [qi10]; exact beq_eq_false_iff_ne.mpr hlast
 rw [e1]
 obtain ⟨RL, hRL⟩ : ∃ RL, partsL (nodeF s k) s kind (s.size + 1) [] [] y m (D : Int) = RL := ⟨_, rfl⟩
 rw [hRL] at hr
 have HR := Aside0.mk hr
 clear hr hc hce hlast e1 qi8 qi9 qi10
 go_wp2
 go_loopg [] (s.size + 1) (fun kq W => ∃ (keys : List ByteArray) (L : List S28) (L' : List S37) (z m' h' e' : Int) (v2 v3 : Value), QRel w0 w W g s kind keys L' z m' h' e' v2 v3 ∧ RMode s h (nodeF s k) kind D RL kq keys L L' z m' h' e')
 case atStart => exact ⟨[], [], [], y, m, h, 0, .slice none 0 0, .slice none 0 0, ⟨Kd.R_nil _ _ _ _ _, Kd.R_nil _ _ _ _ _, hb17, hb27, hs8, by omega, hb.2⟩, Or.inl ⟨rfl, rfl, hRL, rfl, by omega, by simp; omega, by simp; omega, m0, m1⟩⟩
 case round =>
  obtain ⟨keys, L, L', z, m', h', e', v2, v3, hQ, hM⟩ := hrel
  rcases hM with ⟨rfl, rfl, hPL, hLL, hfu, hkl1, hll, mm0, mm1⟩ | ⟨hne, hRLe⟩
  ·obtain ⟨HG, _⟩ := hQ.st.1
   have q4 := cellS95_4 HG
   clear HG
   cases gk with
   | zero => exact absurd hfu (by have := hQ.z1; omega)
   | succ kq =>
   rw [partsL] at hPL
   have HPL := Aside0.mk hPL
   clear hPL
   go_upto_if 45 with (fail)
   go_cut [] (fun wc => ∃ (keys2 : List ByteArray) (z2 h2 e2 : Int) (v2 : Value), QRel w0 w wc g s kind keys2 L' z2 m' h2 e2 v2 v3 ∧ ((e2 = 0 ∧ h2 = h' ∧ stepK s kind keys z = .ok (keys2, z2)) ∨ (e2 = 140 ∧ stepK s kind keys z = .error h2)))
   case first =>
    by_cases hk7 : kind = 7
    case neg =>
     have hq7 : (kind == 7) = false := beq_eq_false_iff_ne.mpr hk7
     rw [hq7]
     go_wp2
     go_meet
     case rel => exact ⟨keys, z, h', 0, v2, hQ, Or.inl ⟨rfl, rfl, by unfold stepK; rw [if_neg hk7]⟩⟩
    have hq7 : (kind == 7) = true := beq_iff_eq.mpr hk7
    rw [hq7]
    have HK7 := Aside0.mk hk7
    obtain ⟨KR, hKR⟩ : ∃ KR, stepK s kind keys z = KR := ⟨_, rfl⟩
    have HK0 := Aside0.mk hKR
    unfold stepK at hKR
    rw [if_pos hk7] at hKR
    clear hk7 hq7
    unfold keyF at hKR
    have hbz := blanksF_bd hQ.z0 hQ.z1
    have hbl := rbl_calls hz hQ.st.1 hQ.st.2.1 hQ.z0 hQ.z1
    obtain ⟨za, hza⟩ : ∃ za, blanksF s z = za := ⟨_, rfl⟩
    rw [hza] at hKR hbz hbl
    have HKR := Aside0.mk hKR
    clear hKR hNode HPL
    go_upto_region 10 with (go_at_call 51; refine hbl.mono ?_; rintro e_ w8 ⟨rfl, hs9⟩; have hQ8 := hQ.keep hn1 hn2 hs9 (by omega) hbz.2; clear hs9)
    clear hbl hQ
    obtain ⟨HG, _⟩ := hQ8.st.1
    have q1 := cellS95_1 HG
    clear HG
    obtain ⟨o, hO, hst⟩ := rstr_calls hz hQ8.st.1 hQ8.st.2.1 hQ8.z0 hQ8.z1
    obtain ⟨key, zb, hb2, eb, rfl, hzb0, hzb1, hOM⟩ : ∃ (key : ByteArray) (zb hb2 eb : Int), o = (key, s, zb, m', hb2, eb) ∧ 0 ≤ zb ∧ zb ≤ (s.size : Int) ∧ ((eb = 0 ∧ hb2 = h' ∧ strF s za = .ok (key, zb)) ∨ (eb = 140 ∧ strF s za = .error hb2)) := by
     unfold strR at hO
     rcases hsf : strF s za with p | ⟨u, zb⟩ <;> rw [hsf] at hO
     ·obtain ⟨y2, rfl, hy0, hy1⟩ := hO
      exact ⟨_, y2, p, 140, rfl, hy0, hy1, Or.inr ⟨rfl, rfl⟩⟩
     ·have := strF_bd (by have := hQ8.z0; omega) hbz.2 hsf
      exact ⟨u, zb, h', 0, hO, by omega, this.2, Or.inl ⟨rfl, rfl, rfl⟩⟩
    simp only at hst
    go_upto_block 2 with (go_at_call 81; refine hst.mono ?_; rintro e_ w9 ⟨rfl, hs9⟩; have hQ9 := hQ8.keep hn1 hn2 hs9 hzb0 hzb1; clear hs9)
    clear hst hO
    go_cut [] (fun wc => ∃ (h4 e4 : Int), QRel w0 w wc g s kind keys L' zb m' h4 e4 v2 v3 ∧ ((e4 = 140 ∧ KR = .error h4) ∨ (e4 = 0 ∧ h4 = h' ∧ (match wordF s [58] (blanksF s zb) with | .ok z_ => .ok (keys ++ [key], z_) | .error p_ => .error p_) = KR)))
    case first =>
     go_wp2
     go_loopg [12] (keys.length + 1) (fun kq v12 W => ∃ (i h4 e4 : Int), v12 = .int .i64 i ∧ QRel w0 w W g s kind keys L' zb m' h4 e4 v2 v3 ∧ 0 ≤ i ∧ i ≤ (keys.length : Int) ∧ (keys.length : Int) - i < kq ∧ ((e4 = 140 ∧ KR = .error h4) ∨ (e4 = 0 ∧ h4 = h' ∧ strF s za = .ok (key, zb) ∧ key ∉ keys.take i.toNat)))
     case atStart =>
      refine ⟨0, hb2, eb, rfl, hQ9, Int.le_refl _, by omega, by omega, ?_⟩
      rcases hOM with ⟨rfl, rfl, hsf⟩ | ⟨rfl, hsf⟩
      ·exact Or.inr ⟨rfl, rfl, hsf, by simp⟩
      ·have := HKR.out
       rw [hsf] at this
       exact Or.inl ⟨rfl, this.symm⟩
     case round =>
      obtain ⟨i, h4, e4, rfl, hQ, i0, i1, hfi, hM⟩ := hrel
      clear hOM hQ9 hQ8
      cases gk with
      | zero => exact absurd hfi (by omega)
      | succ ki =>
      go_upto_region 13 with (fail)
      go_cut [65] (fun v65 wc => v65 = .bool (decide (i < (keys.length : Int) ∧ e4 = 0)) ∧ wc = wr)
      case first =>
       have hcz2 : wr.cell? ⟨w.heap.size + 1, 2, none⟩ = some v2 := (blk_cell hQ.b2 2).trans rfl
       have hfz2 := blk_frozen hQ.b2 2
       obtain ⟨A2, a2, rfl⟩ := Kd.R_slice hQ.r2
       obtain ⟨HG, _⟩ := hQ.st.1
       have q4 := cellS95_4 HG
       have f4 := blk_frozen HG 4
       clear HG
       by_cases hil : i < (keys.length : Int)
       case pos =>
        have qb : decide (i < (keys.length : Int)) = true := decide_eq_true hil
        have HIL := Aside0.mk hil
        clear hil
        go_wp2
        go_meet
        case rel => exact ⟨by rw [rbT HIL.out], rfl⟩
       have qb : decide (i < (keys.length : Int)) = false := decide_eq_false hil
       have HIL := Aside0.mk hil
       clear hil
       go_wp2
       go_meet
       case rel => exact ⟨by rw [rbF (Int.not_lt.mpr HIL.out)], rfl⟩
      case rest =>
       obtain ⟨rfl, rfl⟩ := hcut
       by_cases hie : i < (keys.length : Int) ∧ e4 = 0
       case neg =>
        rw [decide_eq_false hie]
        go_wp2
        go_meet
        case rel =>
         refine ⟨h4, e4, hQ, ?_⟩
         rcases hM with h9 | ⟨h90, h91, h92, h93⟩
         ·exact Or.inl h9
         ·refine Or.inr ⟨h90, h91, ?_⟩
          have h9 := HKR.out
          rw [h92] at h9
          simp only at h9
          rw [if_neg (by
           rw [Lib.containsS_iff]
           intro hin
           apply h93
           rw [List.take_of_length_le (by omega)]
           exact hin)] at h9
          rw [← h9]
          rcases wordF s [58] (blanksF s zb) with p | z_ <;> rfl
       rw [decide_eq_true hie]
       have hil := hie.1
       obtain ⟨hsf, hni⟩ : (h4 = h' ∧ strF s za = .ok (key, zb)) ∧ key ∉ keys.take i.toNat := by
        rcases hM with ⟨h9, _⟩ | ⟨_, h91, h92, h93⟩
        ·exact absurd hie.2 (by omega)
        ·exact ⟨⟨h91, h92⟩, h93⟩
       obtain rfl := hie.2
       clear hM hie
       have hcz2 : wc.cell? ⟨w.heap.size + 1, 2, none⟩ = some v2 := (blk_cell hQ.b2 2).trans rfl
       have hfz2 := blk_frozen hQ.b2 2
       obtain ⟨A2, a2, rfl⟩ := Kd.R_slice hQ.r2
       have p252 := i0
       have q252 := hil
       have hwi : wrap64 (i + 1) = i + 1 := w64 (by omega) (by have := hQ.z1; omega)
       have hi1 : 0 ≤ i + 1 ∧ i + 1 ≤ (keys.length : Int) ∧ (keys.length : Int) - (i + 1) < ki := ⟨by omega, by omega, by omega⟩
       have hlt : i.toNat < keys.length := by omega
       obtain ⟨ad252, e252, hx252⟩ := Kd.at_string (Kd.R_reads' hQ.r2).2.2 i p252 q252
       cases e252
       replace p252 := eq_true p252
       replace q252 := eq_true q252
       have hfl := rfail_calls za 140 hQ.st.1 hQ.st.2.1
       rw [if_pos rfl, if_pos rfl] at hfl
       by_cases hkk : (rdOf ByteArray.empty keys i).toList = key.toList
       case neg =>
        have c55b0 : ((rdOf ByteArray.empty keys i).toList == key.toList) = false := beq_eq_false_iff_ne.mpr hkk
        have HKK := Aside0.mk hkk
        clear hkk
        go_wp2
        go_roundg ki
        case measure => have := hi1.2.2; omega
        case rel => exact ⟨i + 1, h4, 0, rfl, hQ, hi1.1, hi1.2.1, by have := hi1.2.2; omega, Or.inr ⟨rfl, hsf.1, hsf.2, take_not i0 hlt hni HKK.out⟩⟩
       have c55b0 : ((rdOf ByteArray.empty keys i).toList == key.toList) = true := beq_iff_eq.mpr hkk
       have HKK := Aside0.mk hkk
       clear hkk
       go_wp2_with (go_at_call 52; refine hfl.mono ?_; rintro e_ w10 ⟨rfl, hs9⟩; have hQ11 := hQ.keep hn1 hn2 hs9 hQ.z0 hQ.z1; clear hs9)
       go_roundg ki
       case measure => have := hi1.2.2; omega
       case rel => exact ⟨i + 1, za, 140, rfl, hQ11, hi1.1, hi1.2.1, by have := hi1.2.2; omega, Or.inl ⟨rfl, by
        have h9 := HKR.out
        rw [hsf.2] at h9
        simp only at h9
        rw [if_pos ((Lib.containsS_iff _ _).mpr (rd_mem hlt HKK.out))] at h9
        exact h9.symm⟩⟩
    case rest =>
     obtain ⟨h4, e4, hQ10, hM4⟩ := hcut
     clear hOM hQ9 hQ8
     obtain ⟨kk, hkk⟩ : ∃ kk, keys ++ [key] = kk := ⟨_, rfl⟩
     rw [hkk] at hM4
     have HKK := Aside0.mk hkk
     clear hkk
     have hcz2 : wc.cell? ⟨w.heap.size + 1, 2, none⟩ = some v2 := (blk_cell hQ10.b2 2).trans rfl
     have hfz2 := blk_frozen hQ10.b2 2
     go_upto_region 18 with (first | ((with_reducible refine gate_builtin (b := .append) (xs := #[.tmp 79, .tmp 81]) rfl ?_); at_builtin; refine Kd.R_append Kd.string w.heap.size rfl (.tmp 79) (.tmp 81) 22 9 (.string ⟨#[]⟩) 16 rfl Tryz.underlying22 info9 rfl (by decide) (by omega) v2 keys key [.string key] (fun _ => True) (fun _ => False) rfl rfl ?aP (fun _ hk => hk.elim) ?aF ?aO (Below.refl _ _) ?aS ?aL ?_; (case aP => exact rfl); (case aF => exact (fun _ _ => trivial)); (case aO => exact hQ10.r2); (case aS => exact keep_size hQ10.st.2.2); (case aL => have := hQ10.z1; omega); intro v259 w72 ho hb hg hat; rw [HKK.out] at ho; have hQ11 := hQ10.app2 hge hn2 ho hb hg hat; have hcz9 := cell_of (i := 2) (blk_grown hQ10.b2 hg (Kd.R_ne hQ10.r2 hQ10.b2 (by decide))) rfl; have hfz9 := blk_frozen (blk_grown hQ10.b2 hg (Kd.R_ne hQ10.r2 hQ10.b2 (by decide))) 2; clear ho hb hg hat; obtain ⟨A5, a5, rfl⟩ := Kd.R_slice hQ11.r2))
     have hbz2 := blanksF_bd hQ11.z0 hQ11.z1
     have hbl := rbl_calls hz hQ11.st.1 hQ11.st.2.1 hQ11.z0 hQ11.z1
     obtain ⟨zc, hzc⟩ : ∃ zc, blanksF s zb = zc := ⟨_, rfl⟩
     rw [hzc] at hM4 hbz2 hbl
     clear hQ10 hcz2 hfz2
     go_upto_region 19 with (go_at_call 51; refine hbl.mono ?_; rintro e_ w10 ⟨rfl, hs9⟩; have hQ12 := hQ11.keep hn1 hn2 hs9 (by omega) hbz2.2; clear hs9)
     clear hbl hQ11
     have hcw := rword_calls ⟨#[58]⟩ (by decide) hz hQ12.st.1 hQ12.st.2.1 hQ12.z0 hQ12.z1
     have hws : ∃ zz hh ee : Int, wordS s zc h4 e4 (bytesOf ⟨#[58]⟩) = (zz, hh, ee) ∧ (0 ≤ zz ∧ zz ≤ (s.size : Int)) ∧ ((ee = 0 ∧ hh = h' ∧ stepK s kind keys z = .ok (kk, zz)) ∨ (ee = 140 ∧ stepK s kind keys z = .error hh)) := by
      obtain ⟨ws, hw9⟩ : ∃ ws, wordS s zc h4 e4 (bytesOf ⟨#[58]⟩) = ws := ⟨_, rfl⟩
      have hbd := wordS_bd2 hQ12.z0 hQ12.z1 hw9
      obtain ⟨zz, hh, ee⟩ := ws
      refine ⟨zz, hh, ee, hw9, hbd, ?_⟩
      rw [HK0.out]
      rw [show bytesOf ⟨#[58]⟩ = [58] from rfl] at hw9
      unfold wordS at hw9
      rcases hM4 with ⟨rfl, h9⟩ | ⟨rfl, rfl, h9⟩
      ·rw [if_neg (by decide)] at hw9
       cases hw9
       exact Or.inr ⟨rfl, h9⟩
      ·rw [if_pos rfl] at hw9
       rw [← h9]
       rcases hwf : wordF s [58] zc with p | v <;> rw [hwf] at hw9 <;> cases hw9
       ·exact Or.inr ⟨rfl, rfl⟩
       ·exact Or.inl ⟨rfl, rfl, rfl⟩
     obtain ⟨zz, hh, ee, hwe, hbd, hMe⟩ := hws
     rw [hwe] at hcw
     simp only at hcw
     have HMe := Aside0.mk hMe
     clear hMe hM4 hwe
     go_wp2_with (go_at_call 80; refine hcw.mono ?_; rintro e_ w11 ⟨rfl, hs9⟩; have hQ13 := hQ12.keep hn1 hn2 hs9 hbd.1 hbd.2; clear hs9)
     go_meet
     case rel => exact ⟨_, zz, hh, ee, _, hQ13, HMe.out⟩
   case rest =>
    obtain ⟨keys2, z2, h2, e2, v2b, hQ0, hM2⟩ := hcut
    have hQ2 := hQ0.drew
    have hLz : L'.length ≤ 1000 := by have := hQ.z1; omega
    have hzz := hQ.z0
    have hzz1 := hQ.z1
    have hw1 : wrap64 ((D : Int) + 1) = (D : Int) + 1 := w64 (by omega) (by omega)
    have hcn := hNode wc.drew z2 m' h2 e2 hQ2.st.1 hQ2.st.2.1 hQ2.z0 hQ2.z1 (fun _ => ⟨mm0, mm1⟩)
    rw [← hw1] at hcn
    clear hNode hQ hQ0
    try go_wp2
    refine start_ (n := 10) (S := fun w' => w'.cell? ⟨w.heap.size + 1, 0, none⟩ = some (.int .i64 kind) ∧ w'.cell? ⟨w.heap.size + 1, 1, none⟩ = some (.string (⟨#[]⟩ : ByteArray)) ∧ w'.cell? ⟨w.heap.size + 1, 2, none⟩ = some v2b ∧ w'.cell? ⟨w.heap.size + 1, 3, none⟩ = some v3) (ds := [9]) #[false, false, false, false, false, false, false, false, false, false] p8z rfl rfl ⟨(blk_cell hQ2.b2 0).trans rfl, (blk_cell hQ2.b2 1).trans rfl, (blk_cell hQ2.b2 2).trans rfl, (blk_cell hQ2.b2 3).trans rfl⟩ (fun hHeld => ?_); refine with_tabW rparts_tab20 rparts_bits20 (fun HT_ HW_ => ?_)
    generalize wc.drew = w82 at hQ2 hcn hHeld ⊢
    refine pure_ (i := 0) (N := some 88) (v := ?_) (a' := ?_) #[true, false, false, false, false, false, false, false, false, false] rfl rfl (any_of HT_.out p8z) (fun _ _ _ h => h) (Or.inl ⟨by rfl, ?_⟩) ?_ ?_
    rotate_left
    ·intro w'
     go_simp
     with_reducible rfl
    rotate_left
    ·simp only [Act.put, List.setIfInBounds_toArray, List.set_cons_zero, List.set_cons_succ, i64_w, i32_w]
     rfl
    refine pure_ (i := 2) (N := some 90) (v := ?_) (a' := ?_) #[true, false, true, false, false, false, false, false, false, false] rfl rfl (any_of HT_.out p8z) (fun _ _ _ h => h) (Or.inl ⟨by rfl, ?_⟩) ?_ ?_
    rotate_left
    ·intro w'
     go_simp
     with_reducible rfl
    rotate_left
    ·simp only [Act.put, List.setIfInBounds_toArray, List.set_cons_zero, List.set_cons_succ, i64_w, i32_w]
     rfl
    refine pure_ (i := 3) (N := some 91) (v := ?_) (a' := ?_) #[true, false, true, true, false, false, false, false, false, false] rfl rfl (any_of HT_.out p8z) (fun _ _ _ h => h) (Or.inl ⟨by rfl, ?_⟩) ?_ ?_
    rotate_left
    ·intro w'
     go_simp
     with_reducible rfl
    rotate_left
    ·simp only [Act.put, List.setIfInBounds_toArray, List.set_cons_zero, List.set_cons_succ, i64_w, i32_w]
     rfl
    refine pure_ (i := 4) (N := some 92) (v := ?_) (a' := ?_) #[true, false, true, true, true, false, false, false, false, false] rfl rfl (any_of HT_.out p8z) (fun _ _ _ h => h) (Or.inl ⟨by rfl, ?_⟩) ?_ ?_
    rotate_left
    ·intro w'
     go_simp
     with_reducible rfl
    rotate_left
    ·simp only [Act.put, List.setIfInBounds_toArray, List.set_cons_zero, List.set_cons_succ, i64_w, i32_w]
     rfl
    refine take_ (i := 1) (N := some 89) (v := ?_) (a' := ?_) #[true, true, true, true, true, false, false, false, false, false] rfl rfl (take_ofW HT_.out HW_.out p8z) (fun _ _ _ h => h) (Or.inl ⟨by rfl, ?_⟩) hHeld ?_ ?_
    rotate_left
    ·rintro w' ⟨s0, s1, s2, s3⟩
     go_simp
     with_reducible rfl
    rotate_left
    ·simp only [Act.put, List.setIfInBounds_toArray, List.set_cons_zero, List.set_cons_succ, i64_w, i32_w]
     rfl
    refine one_ (i := 5) (N := some 93) #[true, true, true, true, true, true, false, false, false, false] rfl rfl (one_of HT_.out p8z) (by decide) (fun K hK => ?_)
    refine goes_ Tryz.func50 p8z rfl #[.pointer (some ⟨g, 0, none⟩), .int .i64 (wrap64 ((D : Int) + 1))] (by rfl) rfl rfl p5z ?_
    refine hcn.mono ?_
    rintro e_ w83 ⟨nd, u2, u3, x9, m9, h9, e9, rfl, hr2, hr3, hs9, hx9, hg9⟩
    refine ⟨_, rfl, ?_⟩
    have hEl := hQ2.elem hr2 hr3
    obtain ⟨A6, a6, rfl⟩ := Kd.R_slice hr2
    obtain ⟨A7, a7, rfl⟩ := Kd.R_slice hr3
    have hQ3 := hQ2.keep hn1 hn2 hs9 hx9.1 hx9.2
    clear hr2 hr3 hs9 hQ2 hcn
    refine hK.out _ _ ⟨(blk_cell hQ3.b2 0).trans rfl, (blk_cell hQ3.b2 1).trans rfl, (blk_cell hQ3.b2 2).trans rfl, (blk_cell hQ3.b2 3).trans rfl⟩ (fun hHeld => ?_)
    clear hK K
    refine norm_ (a' := ?_) ?_ ?_
    rotate_left
    ·show Act.put _ (some 93) _ = _
     simp only [Act.put, List.setIfInBounds_toArray, List.set_cons_zero, List.set_cons_succ, i64_w, i32_w]
     rfl
    refine one_ (i := 6) (N := some 94) #[true, true, true, true, true, true, true, false, false, false] rfl rfl (one_of HT_.out p8z) (by decide) (fun K hK => ?_)
    refine value_ (w1 := ?_) (v := ?_) (by rfl) rfl ?_ ?_
    rotate_left 2
    ·go_simp
     constructor
     ·rfl
     ·rfl
    refine hK.out _ _ ⟨(blk_cell (blk_alloc hQ3.b2 _) 0).trans rfl, (blk_cell (blk_alloc hQ3.b2 _) 1).trans rfl, (blk_cell (blk_alloc hQ3.b2 _) 2).trans rfl, (blk_cell (blk_alloc hQ3.b2 _) 3).trans rfl⟩ (fun hHeld => ?_)
    clear hK K
    refine norm_ (a' := ?_) ?_ ?_
    rotate_left
    ·show Act.put _ (some 94) _ = _
     simp only [Act.put, List.setIfInBounds_toArray, List.set_cons_zero, List.set_cons_succ, i64_w, i32_w]
     rfl
    refine one_ (i := 7) (N := some 95) #[true, true, true, true, true, true, true, true, false, false] rfl rfl (one_of HT_.out p8z) (by decide) (fun K hK => ?_)
    refine Kd.R_append_step k37 w.heap.size (by rfl) (.tmp 89) (.tmp 94) 35 37 (.agg #[(.int .i64 0), (.string ⟨#[]⟩), (.slice none 0 0), (.slice none 0 0)]) 72 rfl Tryz.underlying35 info37 rfl (by decide) (by omega) v3 L' nd [.int .i64 nd.f0, .string nd.f1, .slice A6 nd.f2.length a6, .slice A7 nd.f3.length a7] (fun k_ => some k_ ≠ v2b.ownBlock ∧ k_ ≠ w.heap.size ∧ k_ ≠ w.heap.size + 1) (fun k_ => (some k_ ≠ v2b.ownBlock ∧ k_ ≠ w.heap.size ∧ k_ ≠ w.heap.size + 1) ∧ some k_ ≠ v3.ownBlock) rfl rfl ?aP (fun _ hk => hk) ?aF ?aO (Below.refl _ _) ?aS ?aL ?_
    (case aP => exact hEl)
    (case aF => exact hQ3.fresh)
    (case aO => exact hQ3.r3)
    (case aS => exact keep_size hQ3.st.2.2)
    (case aL => omega)
    intro v285 w84 ho hb hg hat
    obtain ⟨LL, hLL2⟩ : ∃ LL, L' ++ [nd] = LL := ⟨_, rfl⟩
    rw [hLL2] at ho
    have HLL2 := Aside0.mk hLL2
    clear hLL2 hEl
    have hb2n := blk_grown hQ3.b2 hg (Kd.R_away hQ3.r3 (fun _ hk => hk.2.2))
    have hQ4 := hQ3.app3 hge hn2 ho hb hg
    clear ho hb hg hat hQ3
    obtain ⟨A3, a3, rfl⟩ := Kd.R_slice hQ4.r3
    refine hK.out _ _ ⟨(blk_cell hb2n 0).trans rfl, (blk_cell hb2n 1).trans rfl, (blk_cell hb2n 2).trans rfl, (blk_cell hb2n 3).trans rfl⟩ (fun hHeld => ?_)
    clear hK K
    refine norm_ (a' := ?_) ?_ ?_
    rotate_left
    ·show Act.put _ (some 95) _ = _
     simp only [Act.put, List.setIfInBounds_toArray, List.set_cons_zero, List.set_cons_succ, i64_w, i32_w]
     rfl
    refine pure_ (i := 8) (N := some 96) (v := ?_) (a' := ?_) #[true, true, true, true, true, true, true, true, true, false] rfl rfl (any_of HT_.out p8z) (fun _ _ _ h => h) (Or.inl ⟨by rfl, ?_⟩) ?_ ?_
    rotate_left
    ·intro w'
     go_simp
     with_reducible rfl
    rotate_left
    ·simp only [Act.put, List.setIfInBounds_toArray, List.set_cons_zero, List.set_cons_succ, i64_w, i32_w]
     rfl
    refine last_ (i := 9) (N := none) #[true, true, true, true, true, true, true, true, true, true] rfl rfl (one_of HT_.out p8z) (by decide) (fun K hK => ?_)
    have hs88 : w84.cell? ⟨w.heap.size + 1, 3, none⟩ = some v3 := (blk_cell hb2n 3).trans rfl
    have hfs88 := blk_frozen hb2n 3
    refine skip_ (w1 := ?_) (by rfl) rfl ?_ ?_
    rotate_left
    ·go_simp
     rfl
    refine hK.out _ _ ?_
    clear hK K hs88 hfs88 hb2n
    refine done_ (done_of HT_.out p8z) ?_
    clear HT_ HW_ hHeld
    have hMN : (e9 ≠ 0 ∧ RL = .error (h9, e9)) ∨ (e9 = 0 ∧ h9 = h' ∧ ∃ n : S28, (if nowF s (blanksF s x9) = 44 then partsL (nodeF s k) s kind kq keys2 (L ++ [n]) (blanksF s x9 + 1) m9 (D : Int) else .ok (keys2, L ++ [n], blanksF s x9, m9, (D : Int))) = RL ∧ LL = toRL (L ++ [n]) ∧ z < x9 ∧ (keys2.length : Int) ≤ x9 ∧ (LL.length : Int) ≤ x9 ∧ 0 ≤ m9 ∧ m9 ≤ 4000) := by
     have h1 := HPL.out
     rcases hM2 with ⟨rfl, rfl, hst⟩ | ⟨rfl, hst⟩
     ·rw [hst] at h1
      simp only at h1
      rw [if_pos rfl] at hg9
      have hzk := stepK_bd hzz hzz1 hst
      have hkl9 := stepK_len hst
      rcases hnf : nodeF s k z2 m' (D : Int) with ⟨p, c⟩ | ⟨n, zz, mm, dd⟩ <;> rw [hnf] at h1 hg9
      ·obtain ⟨rfl, rfl, hc0⟩ := hg9
       exact Or.inl ⟨hc0, h1.symm⟩
      ·obtain ⟨rfl, rfl, rfl, rfl, rfl⟩ := hg9
       simp only at h1
       obtain ⟨g1, g2, g3, g4, rfl⟩ := nodeF_goes s k (D : Int) z2 m' n x9 m9 dd (by omega) hzk.2 mm0 mm1 hnf
       refine Or.inr ⟨rfl, rfl, n, h1, ?_, by omega, by omega, ?_, g3, g4⟩
       ·rw [← HLL2.out, hLL, toRL_app]
        rfl
       ·rw [← HLL2.out, List.length_append]
        simp only [List.length_cons, List.length_nil]
        omega
     ·rw [hst] at h1
      simp only at h1
      rw [if_neg (by decide)] at hg9
      obtain ⟨rfl, rfl⟩ := hg9
      exact Or.inl ⟨by decide, h1.symm⟩
    have HMN := Aside0.mk hMN
    clear hMN hg9 hM2
    have hbz2 := blanksF_bd hQ4.z0 hQ4.z1
    have hbl := rbl_calls hz hQ4.st.1 hQ4.st.2.1 hQ4.z0 hQ4.z1
    obtain ⟨zc, hzc⟩ : ∃ zc, blanksF s x9 = zc := ⟨_, rfl⟩
    have HZC := Aside0.mk hzc
    rw [hzc] at hbz2 hbl
    clear hzc
    go_upto_region 22 with (go_at_call 51; refine hbl.mono ?_; rintro e_ w10 ⟨rfl, hs9⟩; have hQ5 := hQ4.keep hn1 hn2 hs9 (by have := hx9.1; omega) hbz2.2; clear hs9)
    clear hbl hQ4
    have hnw := rnow_calls hQ5.st.1 hQ5.st.2.1 hQ5.z0 hQ5.z1
    obtain ⟨cc, hcc⟩ : ∃ cc, nowE s zc e9 = cc := ⟨_, rfl⟩
    rw [hcc] at hnw
    by_cases h44 : cc = 44
    case pos =>
     have q44 : (cc != 44) = false := bne_eq_false_iff_eq.mpr h44
     have q45 : (cc == 44) = true := beq_iff_eq.mpr h44
     obtain ⟨rfl, hcn⟩ : e9 = 0 ∧ nowF s zc = 44 := by
      unfold nowE at hcc
      split at hcc
      ·exact ⟨by assumption, by omega⟩
      ·omega
     have hlt := nowF_lt hbz2.2 (by decide) hcn
     have hMB : ∃ n : S28, h9 = h' ∧ partsL (nodeF s k) s kind kq keys2 (L ++ [n]) (zc + 1) m9 (D : Int) = RL ∧ LL = toRL (L ++ [n]) ∧ z < x9 ∧ (keys2.length : Int) ≤ x9 ∧ (LL.length : Int) ≤ x9 ∧ 0 ≤ m9 ∧ m9 ≤ 4000 := by
      rcases HMN.out with ⟨h8, _⟩ | ⟨_, h8, n, h81, h82⟩
      ·exact absurd rfl h8
      ·rw [HZC.out, if_pos hcn] at h81
       exact ⟨n, h8, h81, h82⟩
     obtain ⟨n, rfl, hM⟩ := hMB
     have HM := Aside0.mk hM
     have hzx := hM.2.2.1
     clear HMN hM hcc h44 hcn
     have hw2 : wrap64 (zc + 1) = zc + 1 := w64 (by omega) (by omega)
     go_upto_region 23 with (go_at_call 79; refine hnw.mono ?_; rintro e_ w11 ⟨rfl, hs9⟩; have hQ6 := hQ5.keep hn1 hn2 hs9 hQ5.z0 hQ5.z1; clear hs9)
     clear hnw hQ5
     obtain ⟨HG, _⟩ := hQ6.st.1
     have q1 := cellS95_1 HG
     have r1 := blk_frozen HG 1
     clear HG
     have hQ7 := hQ6.at_ hn1 hn2 (zc + 1) (by omega) (by omega)
     clear hQ6
     go_wp2
     go_roundg kq
     case measure => omega
     case rel => exact ⟨keys2, L ++ [n], LL, zc + 1, m9, h9, 0, v2b, _, hQ7, Or.inl ⟨rfl, rfl, HM.out.1, HM.out.2.1, by omega, by have := HM.out.2.2.2.1; omega, by have := HM.out.2.2.2.2.1; omega, HM.out.2.2.2.2.2.1, HM.out.2.2.2.2.2.2⟩⟩
    have q44 : (cc != 44) = true := bne_iff_ne.mpr h44
    have q45 : (cc == 44) = false := beq_eq_false_iff_ne.mpr h44
    have hfin : RGood h' r ⟨kind, ⟨#[]⟩, keys2, LL⟩ (wordS s zc h9 e9 [last]).1 m9 (wordS s zc h9 e9 [last]).2.1 (wordS s zc h9 e9 [last]).2.2 := by
     rw [← HR.out]
     rcases HMN.out with ⟨hne, h8⟩ | ⟨rfl, rfl, n, h81, h82, _⟩
     ·rw [h8]
      unfold wordS
      rw [if_neg hne]
      exact ⟨rfl, rfl, hne⟩
     ·rw [HZC.out, if_neg (by unfold nowE at hcc; rw [if_pos rfl] at hcc; omega)] at h81
      rw [← h81, h82]
      simp only
      unfold wordS
      rw [if_pos rfl]
      rcases hwf : wordF s [last] zc with p | v
      ·exact ⟨rfl, rfl, by decide⟩
      ·exact ⟨by rw [toR_at], rfl, rfl, rfl, rfl⟩
    clear HMN hcc h44
    obtain ⟨A2, a2, rfl⟩ := Kd.R_slice hQ5.r2
    have hbd := wordS_bd2 (s := s) (x := zc) (h := h9) (e := e9) (t := [last]) (ws := wordS s zc h9 e9 [last]) hQ5.z0 hQ5.z1 rfl
    obtain ⟨ws, hws⟩ : ∃ ws, wordS s zc h9 e9 [last] = ws := ⟨_, rfl⟩
    rw [hws] at hfin hbd
    have HF := Aside0.mk hfin
    have HWS := Aside0.mk hws
    clear hfin hws
    go_upto_region 24 with (go_at_call 79; refine hnw.mono ?_; rintro e_ w11 ⟨rfl, hs9⟩; have hQ6 := hQ5.keep hn1 hn2 hs9 hQ5.z0 hQ5.z1; clear hs9)
    clear hnw hQ5
    have hcw := rword_calls lb (by omega) hz hQ6.st.1 hQ6.st.2.1 hQ6.z0 hQ6.z1
    rw [hlb, HWS.out] at hcw
    go_wp2_with (go_at_call 80; refine hcw.mono ?_; rintro e_ w8 ⟨rfl, hs8⟩; have hQ8 := hQ6.keep hn1 hn2 hs8 hbd.1 hbd.2; have hc0 := cell_of (i := 0) hQ8.b1 rfl; have hc1 := cell_of (i := 1) hQ8.b1 rfl; have hc2 := cell_of (i := 2) hQ8.b1 rfl; have hc3 := cell_of (i := 3) hQ8.b1 rfl; have hd0 := cell_of (i := 0) hQ8.b2 rfl; have hd1 := cell_of (i := 1) hQ8.b2 rfl; have hd2 := cell_of (i := 2) hQ8.b2 rfl; have hd3 := cell_of (i := 3) hQ8.b2 rfl; have he0 := blk_frozen hQ8.b1 0; have he1 := blk_frozen hQ8.b1 1; have he2 := blk_frozen hQ8.b1 2; have he3 := blk_frozen hQ8.b1 3)
    have hst := rstored hQ8.st hQ8.b1 hn1 (Nat.le_refl _) hge (.int .i64 kind) (.string ⟨#[]⟩) (.slice A2 keys2.length a2) (.slice A3 LL.length a3)
    refine bodyPost_ret (results_cell_row rfl _ _ w.heap.size 37 #[.int .i64 kind, .string ⟨#[]⟩, .slice A2 keys2.length a2, .slice A3 LL.length a3] (0, 0) _ rfl hst.1 Tryz.underlying37 rfl p8z) rfl ?_
    exact ⟨⟨kind, ⟨#[]⟩, keys2, LL⟩, _, _, ws.1, m9, ws.2.1, ws.2.2, rfl, hQ8.out2 _ _ _ _, hQ8.out3 _ _ _ _, hst.2, hbd, HF.out⟩
  ·obtain ⟨HG, _⟩ := hQ.st.1
   have q4 := cellS95_4 HG
   clear HG
   have q4b : (e' == 0) = false := beq_eq_false_iff_ne.mpr hne
   obtain ⟨A2, a2, rfl⟩ := Kd.R_slice hQ.r2
   obtain ⟨A3, a3, rfl⟩ := Kd.R_slice hQ.r3
   have hfin : RGood h r ⟨kind, ⟨#[]⟩, keys, L'⟩ (wordS s z h' e' [last]).1 m' (wordS s z h' e' [last]).2.1 (wordS s z h' e' [last]).2.2 := by
    rw [← HR.out, hRLe]
    unfold wordS
    rw [if_neg hne]
    exact ⟨rfl, rfl, hne⟩
   clear hNode
   have hcw := rword_calls lb (by omega) hz hQ.st.1 hQ.st.2.1 hQ.z0 hQ.z1
   rw [hlb] at hcw
   obtain ⟨ws, hws⟩ : ∃ ws, wordS s z h' e' [last] = ws := ⟨_, rfl⟩
   rw [hws] at hcw hfin
   have hbd := wordS_bd2 hQ.z0 hQ.z1 hws
   have HF := Aside0.mk hfin
   clear hfin hws
   go_wp2_with (go_at_call 80; refine hcw.mono ?_; rintro e_ w8 ⟨rfl, hs8⟩; have hQ8 := hQ.keep hn1 hn2 hs8 hbd.1 hbd.2; have hc0 := cell_of (i := 0) hQ8.b1 rfl; have hc1 := cell_of (i := 1) hQ8.b1 rfl; have hc2 := cell_of (i := 2) hQ8.b1 rfl; have hc3 := cell_of (i := 3) hQ8.b1 rfl; have hd0 := cell_of (i := 0) hQ8.b2 rfl; have hd1 := cell_of (i := 1) hQ8.b2 rfl; have hd2 := cell_of (i := 2) hQ8.b2 rfl; have hd3 := cell_of (i := 3) hQ8.b2 rfl; have he0 := blk_frozen hQ8.b1 0; have he1 := blk_frozen hQ8.b1 1; have he2 := blk_frozen hQ8.b1 2; have he3 := blk_frozen hQ8.b1 3)
   have hst := rstored hQ8.st hQ8.b1 hn1 (Nat.le_refl _) hge (.int .i64 kind) (.string ⟨#[]⟩) (.slice A2 keys.length a2) (.slice A3 L'.length a3)
   refine bodyPost_ret (results_cell_row rfl _ _ w.heap.size 37 #[.int .i64 kind, .string ⟨#[]⟩, .slice A2 keys.length a2, .slice A3 L'.length a3] (0, 0) _ rfl hst.1 Tryz.underlying37 rfl p8z) rfl ?_
   exact ⟨⟨kind, ⟨#[]⟩, keys, L'⟩, _, _, ws.1, m', ws.2.1, ws.2.2, rfl, hQ8.out2 _ _ _ _, hQ8.out3 _ _ _ _, hst.2, hbd, HF.out⟩
end Go.Proofs.YtodnggilomanbaaGreatDoor.Hand
end
section
set_option maxRecDepth 100000
set_option maxHeartbeats 8000000
namespace Go.Proofs.YtodnggilomanbaaGreatDoor.Hand
open Go.RowKit Go.Lib Go.Proofs.YtodnggilomanbaaGreatDoor.PAll Go.Proofs.YtodnggilomanbaaGreatDoorW.PrintWords Go.Proofs.YtodnggilomanbaaGreatDoorW.PrintLast Go.Proofs.YtodnggilomanbaaGreatDoorW.PrintMore Go.Proofs.YtodnggilomanbaaGreatDoor.Pure
set_option linter.unusedVariables false
set_option linter.unusedSimpArgs false

theorem rnode_calls (g : Nat) (s : ByteArray) (w0 : World) (hz : s.size ≤ 1000) : ∀ (k D : Nat), k + 1 + D = 61 → ∀ (w : World) (x m h e : Int), IsS95 w0 w g s x m h e → Below w0.heap.size w0 w → 0 ≤ x → x ≤ (s.size : Int) → (e = 0 → 0 ≤ m ∧ m ≤ 4000) →
    Calls Tryz.prog 50 #[.pointer (some ⟨g, 0, none⟩), .int .i64 ((D : Int) + 1)] w fun e_ w' => RNOut w0 w w' g s (fun nd x' m' h' e' => if e = 0 then RGood h (nodeF s (k + 1) x m (D : Int)) nd x' m' h' e' else h' = h ∧ e' = e) e_
  | 0, D, hk, w, x, m, h, e, hI, hB, h0, h1, hm => rnode_step g s x m h e D 0 w0 w hz hk hI hB h0 h1 hm (fun kind last W x2 m2 hkl hD => absurd hD (by omega))
  | k + 1, D, hk, w, x, m, h, e, hI, hB, h0, h1, hm => rnode_step g s x m h e D (k + 1) w0 w hz hk hI hB h0 h1 hm (fun kind last W x2 m2 hkl hD hI2 hB2 y0 y1 n0 n1 =>
      rparts_step g s ⟨#[UInt8.ofNat last.toNat]⟩ kind last x2 m2 h (D + 1) (k + 1) w0 W hz hkl (by rcases hkl with ⟨_, rfl⟩ | ⟨_, rfl⟩ <;> rfl) (by omega) (by omega) hI2 hB2 y0 y1 n0 n1
        (fun W3 x3 m3 h3 e3 hI3 hB3 z0 z1 hm3 => rnode_calls g s w0 hz k (D + 1) (by omega) W3 x3 m3 h3 e3 hI3 hB3 z0 z1 hm3))

def RParseOut (w w' : World) (r : S37 × Int × Int) (e : Ending) : Prop := ∃ v2 v3 : Value, e = .returned (.tuple #[.agg #[.int .i64 r.1.f0, .string r.1.f1, v2, v3], .int .i64 r.2.1, .int .i64 r.2.2]) ∧ Kd.R Kd.string 9 w' w.heap.size (fun _ => True) v2 r.1.f2 ∧ Kd.R k37 37 w' w.heap.size (fun k_ => some k_ ≠ v2.ownBlock) v3 r.1.f3 ∧ Below w.heap.size w w'
theorem RParseOut.zero {w w' : World} {p c : Int} (hb : Below w.heap.size w w') : RParseOut w w' (⟨0, ⟨#[]⟩, [], []⟩, p, c) (.returned (.tuple #[.agg zcells, .int .i64 p, .int .i64 c])) :=
  ⟨_, _, rfl, Kd.R_nil _ _ _ _ _, Kd.R_nil _ _ _ _ _, hb⟩
theorem results_rparse {tmps : Array Value} {W : World} {bn : Nat} {cs : Array Value} {p c : Int} (h2 : tmps.getD 2 undef = .pointer (some ⟨bn, 0, none⟩)) (h3 : tmps.getD 3 undef = .int .i64 p) (h4 : tmps.getD 4 undef = .int .i64 c)
    (hn : W.heap[bn]? = some (.cells cs 37 (0, 0))) (hl : cs.size = 4) :
    (results Tryz.f24 tmps).run Tryz.prog W = .ok (.tuple #[.agg cs, .int .i64 p, .int .i64 c]) W := by
  have h2' : tmps[2]?.getD undef = .pointer (some ⟨bn, 0, none⟩) := by simpa using h2
  have h3' : tmps[3]?.getD undef = .int .i64 p := by simpa using h3
  have h4' : tmps[4]?.getD undef = .int .i64 c := by simpa using h4
  have hl' := run_loadVar_row (P := Tryz.prog) W bn 37 37 cs (0, 0) _ hn Tryz.underlying37 rfl (by rw [hl]; kernel_rfl)
  have e : Tryz.f24.results = #[.cell 2 37, .tmp 3, .tmp 4] := rfl
  simp [results, e, h2', h3', h4', asAddr, hl']
structure PQ (w W : World) (g b6 : Nat) (s : ByteArray) (nd : S37) (z m h e : Int) (v2 v3 : Value) : Prop where
  r2 : Kd.R Kd.string 9 W w.heap.size (fun _ => True) v2 nd.f2
  r3 : Kd.R k37 37 W w.heap.size (fun k_ => some k_ ≠ v2.ownBlock ∧ k_ ≠ w.heap.size) v3 nd.f3
  b0 : W.heap[w.heap.size]? = some (.cells zcells 37 (0, 0))
  bn : W.heap[b6]? = some (.cells #[.int .i64 nd.f0, .string nd.f1, v2, v3] 37 (0, 0))
  st : IsS95 w W g s z m h e
  bl : Below w.heap.size w W
theorem PQ.keep {w W W' : World} {g b6 : Nat} {s : ByteArray} {nd : S37} {z m h e z' m' h' e' : Int} {v2 v3 : Value} (hQ : PQ w W g b6 s nd z m h e v2 v3) (hn1 : w.heap.size ≠ g) (hn6 : b6 ≠ g) (hs : RKept w W W' g s z' m' h' e') : PQ w W' g b6 s nd z' m' h' e' v2 v3 :=
  ⟨Kd.R_mono (Kd.R_keep (IsS95.apart hQ.st hQ.r2 (by decide)) hs.2.2 (fun _ hh => hh.2)) (fun _ _ => trivial), Kd.R_mono (Kd.R_keep (IsS95.apart hQ.st hQ.r3 (by decide)) hs.2.2 (fun _ hh => hh.2)) (fun _ hh => hh.1), hs.2.2.blk hQ.b0 hn1 (by simp), hs.2.2.blk hQ.bn hn6 (by simp), hs.1, hs.2.1⟩
theorem PQ.out {w W : World} {g b6 : Nat} {s : ByteArray} {nd : S37} {z m h e : Int} {v2 v3 : Value} (hQ : PQ w W g b6 s nd z m h e v2 v3) (u0 u1 u2 u3 : Value) :
 ((((W.setCell ⟨w.heap.size, 0, none⟩ u0).setCell ⟨w.heap.size, 1, none⟩ u1).setCell ⟨w.heap.size, 2, none⟩ u2).setCell ⟨w.heap.size, 3, none⟩ u3).heap[w.heap.size]? = some (.cells #[u0, u1, u2, u3] 37 (0, 0)) ∧
 Kd.R Kd.string 9 ((((W.setCell ⟨w.heap.size, 0, none⟩ u0).setCell ⟨w.heap.size, 1, none⟩ u1).setCell ⟨w.heap.size, 2, none⟩ u2).setCell ⟨w.heap.size, 3, none⟩ u3) w.heap.size (fun _ => True) v2 nd.f2 ∧
 Kd.R k37 37 ((((W.setCell ⟨w.heap.size, 0, none⟩ u0).setCell ⟨w.heap.size, 1, none⟩ u1).setCell ⟨w.heap.size, 2, none⟩ u2).setCell ⟨w.heap.size, 3, none⟩ u3) w.heap.size (fun k_ => some k_ ≠ v2.ownBlock) v3 nd.f3 ∧
 Below w.heap.size w ((((W.setCell ⟨w.heap.size, 0, none⟩ u0).setCell ⟨w.heap.size, 1, none⟩ u1).setCell ⟨w.heap.size, 2, none⟩ u2).setCell ⟨w.heap.size, 3, none⟩ u3) := by
 refine ⟨?_, ?_, ?_, ?_⟩
 ·exact blk_put (cs := #[u0, u1, u2, .slice none 0 0]) (blk_put (cs := #[u0, u1, .slice none 0 0, .slice none 0 0]) (blk_put (cs := #[u0, .string ⟨#[]⟩, .slice none 0 0, .slice none 0 0]) (blk_put (cs := zcells) hQ.b0 0 _ rfl) 1 _ rfl) 2 _ rfl) 3 _ rfl
 ·exact Kd.R_mono (Kd.R_far (p := ⟨w.heap.size, 3, none⟩) (Kd.R_far (p := ⟨w.heap.size, 2, none⟩) (Kd.R_far (p := ⟨w.heap.size, 1, none⟩) (Kd.R_far (p := ⟨w.heap.size, 0, none⟩) (Kd.R_types hQ.r2 hQ.b0 (by decide)) (fun _ hk => hk.2) u0) (fun _ hk => hk.2) u1) (fun _ hk => hk.2) u2) (fun _ hk => hk.2) u3) (fun _ _ => trivial)
 ·exact Kd.R_mono (Kd.R_far (p := ⟨w.heap.size, 3, none⟩) (Kd.R_far (p := ⟨w.heap.size, 2, none⟩) (Kd.R_far (p := ⟨w.heap.size, 1, none⟩) (Kd.R_far (p := ⟨w.heap.size, 0, none⟩) hQ.r3 (fun _ hk => hk.2) u0) (fun _ hk => hk.2) u1) (fun _ hk => hk.2) u2) (fun _ hk => hk.2) u3) (fun _ hk => hk.1)
 ·exact below_set (below_set (below_set (below_set hQ.bl (Nat.le_refl _)) (Nat.le_refl _)) (Nat.le_refl _)) (Nat.le_refl _)
def rparseF (s : ByteArray) : S37 × Int × Int := (toR (parseF s).1, (parseF s).2.1, (parseF s).2.2)
def rparse_T9 : Bool × List (List Nat × List Nat) := (true,
  [([], []), ([], []), ([1], [1]), ([2], [2]), ([3], [3]), ([], []), ([5], [5]), ([6], [6]), ([7], [7]), ([0, 0], [0]),
    ([4, 9, 0, 1, 2, 3, 4, 9], [4]), ([8, 10, 0, 1, 2, 3, 4, 5, 6, 7, 8, 9, 10], [8])])
def rparse_B9 : List Nat := [0, 0, 2, 6, 14, 0, 32, 96, 224, 1, 30, 480]
theorem rparse_tab9 : rtab .any (opsOf Tryz.f24 9) = rparse_T9 := p8z
theorem rparse_bits9 : waitsOk rparse_T9.2 rparse_B9 = true := p8z
theorem rparse_calls (s : ByteArray) (w : World) (hz : s.size ≤ 1000) : Calls Tryz.prog 24 #[.string s] w fun e w' => RParseOut w w' (rparseF s) e := by
 have hq : decide ((s.size : Int) > 1048576) = false := decide_eq_false (by omega)
 have hq' : decide (1048576 < (s.size : Int)) = false := decide_eq_false (by omega)
 have hqq : ¬ ((s.size : Int) > 1048576) := by omega
 go_enter Tryz.func24, Tryz.ntmps24
 go_upto_region 4 with (fail)
 generalize hW2 : World.alloc (World.alloc w _) _ = W2
 have hI : IsS95 w W2 (w.heap.size + 1) s 0 0 0 0 := by
  rw [← hW2]
  exact ⟨by have := heap_alloc_new (w.alloc (.cells zcells 37)) (.cells #[.string s, .int .i64 0, .int .i64 0, .int .i64 0, .int .i64 0] 95); simpa using this, by omega⟩
 have hB : Below w.heap.size w W2 := by rw [← hW2]; exact below_alloc (below_alloc (Below.refl _ _) _) _
 have hb0 : W2.heap[w.heap.size]? = some (.cells zcells 37 (0, 0)) := by rw [← hW2]; exact blk_alloc (heap_alloc_new w _) _
 have hn1 : w.heap.size ≠ w.heap.size + 1 := by omega
 obtain ⟨g, hg⟩ : ∃ g, w.heap.size + 1 = g := ⟨_, rfl⟩
 rw [hg] at hI hn1 ⊢
 have hnode : Calls Tryz.prog 50 #[.pointer (some ⟨g, 0, none⟩), .int .i64 1] W2 fun e_ w' => RNOut w W2 w' g s (fun nd x' m' h' e' => if (0 : Int) = 0 then RGood 0 (nodeF s 61 0 0 0) nd x' m' h' e' else h' = 0 ∧ e' = 0) e_ := rnode_calls g s w hz 60 0 rfl W2 0 0 0 0 hI hB (Int.le_refl _) (by omega) (fun _ => ⟨by omega, by omega⟩)
 have hgs : w.heap.size ≤ g := by omega
 have hle : w.heap.size ≤ W2.heap.size := hB.size
 clear hW2 hg hI hB
 go_upto_region 5 with (go_at_call 50; refine hnode.mono ?_; rintro e_ w4 ⟨nd, u2, u3, x', m', h', e', rfl, hr2, hr3, hs4, hx, hgd⟩; obtain ⟨A2, a2, rfl⟩ := Kd.R_slice hr2; obtain ⟨A3, a3, rfl⟩ := Kd.R_slice hr3; have hb4 := hs4.2.2.blk hb0 hn1 (by simp); have HS4 := Aside0.mk hs4; have HGD := Aside0.mk hgd; have HR2 := Aside0.mk hr2; have HR3 := Aside0.mk hr3; clear hs4 hgd hr2 hr3)
 have hQ4 : PQ w (w4.alloc (.cells #[.int .i64 nd.f0, .string nd.f1, .slice A2 nd.f2.length a2, .slice A3 nd.f3.length a3] 37)) g w4.heap.size s nd x' m' h' e' (.slice A2 nd.f2.length a2) (.slice A3 nd.f3.length a3) :=
  ⟨Kd.R_alloc (Kd.R_lower HR2.out hle) _, Kd.R_alloc (Kd.R_lower (Kd.R_newB HR3.out hb0) hle) _, blk_alloc hb4 _, heap_alloc_new w4 _, HS4.out.1.alloc _, below_alloc HS4.out.2.1 _⟩
 have hn6 : w4.heap.size ≠ g := by have := HS4.out.1.lt; omega
 have hgd := HGD.out
 rw [if_pos trivial] at hgd
 clear HGD hnode HS4 HR2 HR3 hb4 hb0
 obtain ⟨b6, hb6⟩ : ∃ b6, w4.heap.size = b6 := ⟨_, rfl⟩
 rw [hb6] at hQ4 hn6 ⊢
 clear hb6
 generalize World.alloc w4 _ = w5 at hQ4 ⊢
 have hbl := rbl_calls hz hQ4.st hQ4.bl hx.1 hx.2
 have hbz := blanksF_bd hx.1 hx.2
 obtain ⟨z, hzz⟩ : ∃ z, blanksF s x' = z := ⟨_, rfl⟩
 rw [hzz] at hbl hbz
 go_upto_region 6 with (go_at_call 51; refine hbl.mono ?_; rintro e_ w6 ⟨rfl, hs9⟩; have hQ5 := hQ4.keep hn1 hn6 hs9; clear hs9)
 clear hbl hQ4
 have HQ1 := cellS95_1 hQ5.st.1
 go_upto_if 24 with (fail)
 go_cut [] (fun wc => ∃ (h9 e9 : Int), PQ w wc g b6 s nd z m' h9 e9 (.slice A2 nd.f2.length a2) (.slice A3 nd.f3.length a3) ∧ rparseF s = (if e9 = 0 then (nd, 0, 0) else (⟨0, ⟨#[]⟩, [], []⟩, h9, e9)))
 case first =>
  by_cases hlt : z < (s.size : Int)
  case neg =>
   have ql : decide (z < (s.size : Int)) = false := decide_eq_false hlt
   have hRF : rparseF s = (if e' = 0 then (nd, 0, 0) else (⟨0, ⟨#[]⟩, [], []⟩, h', e')) := by
    unfold rparseF parseF
    rw [if_neg (by omega)]
    rcases hnf : nodeF s 61 0 0 0 with ⟨p, c⟩ | ⟨n, zz, mm, dd⟩ <;> rw [hnf] at hgd
    ·obtain ⟨rfl, rfl, hc0⟩ := hgd
     rw [if_neg hc0]
     rfl
    ·obtain ⟨rfl, rfl, rfl, rfl, rfl⟩ := hgd
     simp only
     rw [hzz, if_neg hlt]
     rfl
   have HRF := Aside0.mk hRF
   clear hgd hlt hRF
   rw [ql]
   go_wp2
   go_meet
   case rel => exact ⟨h', e', hQ5, HRF.out⟩
  have ql : decide (z < (s.size : Int)) = true := decide_eq_true hlt
  have hfl := rfail_calls z 140 hQ5.st hQ5.bl
  have hne : (if e' = 0 then (140 : Int) else e') ≠ 0 := by split <;> omega
  have hRF : rparseF s = (⟨0, ⟨#[]⟩, [], []⟩, (if e' = 0 then z else h'), (if e' = 0 then 140 else e')) := by
   unfold rparseF parseF
   rw [if_neg (by omega)]
   rcases hnf : nodeF s 61 0 0 0 with ⟨p, c⟩ | ⟨n, zz, mm, dd⟩ <;> rw [hnf] at hgd
   ·obtain ⟨rfl, rfl, hc0⟩ := hgd
    rw [if_neg hc0, if_neg hc0]
    rfl
   ·obtain ⟨rfl, rfl, rfl, rfl, rfl⟩ := hgd
    simp only
    rw [hzz, if_pos hlt]
    rfl
  obtain ⟨h9, hh9⟩ : ∃ h9, (if e' = 0 then z else h') = h9 := ⟨_, rfl⟩
  obtain ⟨e9, he9⟩ : ∃ e9, (if e' = 0 then (140 : Int) else e') = e9 := ⟨_, rfl⟩
  rw [hh9, he9] at hfl hRF
  rw [he9] at hne
  have HRF := Aside0.mk hRF
  clear hgd hlt hh9 he9 hRF
  rw [ql]
  go_wp2_with (go_at_call 52; refine hfl.mono ?_; rintro e_ w7 ⟨rfl, hs9⟩; have hQ6 := hQ5.keep hn1 hn6 hs9; clear hs9)
  go_meet
  case rel => exact ⟨h9, e9, hQ6, by rw [if_neg hne]; exact HRF.out⟩
 case rest =>
 obtain ⟨h9, e9, hQ6, hRF⟩ := hcut
 clear hQ5 HQ1 hgd
 have HQ1 := cellS95_4 hQ6.st.1
 by_cases hne : e9 = 0
 case pos =>
  rw [if_pos hne] at hRF
  have q9 : (e9 != 0) = false := bne_eq_false_iff_eq.mpr hne
  have q9' : (e9 == 0) = true := beq_iff_eq.mpr hne
  clear hne
  have hO := hQ6.out (.int .i64 nd.f0) (.string nd.f1) (.slice A2 nd.f2.length a2) (.slice A3 nd.f3.length a3)
  have hd0 := cell_of (i := 0) hQ6.bn rfl
  have hd1 := cell_of (i := 1) hQ6.bn rfl
  have hd2 := cell_of (i := 2) hQ6.bn rfl
  have hd3 := cell_of (i := 3) hQ6.bn rfl
  have hc0 := cell_of (i := 0) hQ6.b0 rfl
  have hc1 := cell_of (i := 1) hQ6.b0 rfl
  have hc2 := cell_of (i := 2) hQ6.b0 rfl
  have hc3 := cell_of (i := 3) hQ6.b0 rfl
  have hf0 := blk_frozen hQ6.b0 0
  have hf1 := blk_frozen hQ6.b0 1
  have hf2 := blk_frozen hQ6.b0 2
  have hf3 := blk_frozen hQ6.b0 3
  have HO := Aside0.mk hO
  have HRF := Aside0.mk hRF
  clear hO hRF hQ6
  go_wp2
  refine bodyPost_ret (results_rparse rfl rfl rfl HO.out.1 rfl) rfl ?_
  rw [HRF.out]
  exact ⟨_, _, rfl, HO.out.2.1, HO.out.2.2.1, HO.out.2.2.2⟩
 rw [if_neg hne] at hRF
 have q9 : (e9 != 0) = true := bne_iff_ne.mpr hne
 have q9' : (e9 == 0) = false := beq_eq_false_iff_ne.mpr hne
 clear hne
 go_upto_region 9 with (fail)
 have hQ7 : PQ w wc.drew g b6 s nd z m' h9 e9 (.slice A2 nd.f2.length a2) (.slice A3 nd.f3.length a3) := ⟨Kd.R_drew hQ6.r2, Kd.R_drew hQ6.r3, blk_drew hQ6.b0, blk_drew hQ6.bn, hQ6.st.drew, below_drew1 hQ6.bl⟩
 clear hQ6 HQ1
 refine start_ (n := 12) (S := fun w' => w'.cell? ⟨g, 3, none⟩ = some (.int .i64 h9) ∧ w'.cell? ⟨g, 4, none⟩ = some (.int .i64 e9)) (ds := []) #[false, false, false, false, false, false, false, false, false, false, false, false] p8z rfl rfl ⟨cellS95_3 hQ7.st.1, cellS95_4 hQ7.st.1⟩ (fun hHeld => ?_); refine with_tabW rparse_tab9 rparse_bits9 (fun HT_ HW_ => ?_)
 generalize wc.drew = w8 at hQ7 hHeld ⊢
 refine pure_ (i := 0) (N := some 36) (v := ?_) (a' := ?_) #[true, false, false, false, false, false, false, false, false, false, false, false] rfl rfl (any_of HT_.out p8z) (fun _ _ _ h => h) (Or.inl ⟨by rfl, ?_⟩) ?_ ?_
 rotate_left
 ·intro w'
  go_simp
  with_reducible rfl
 rotate_left
 ·simp only [Act.put, List.setIfInBounds_toArray, List.set_cons_zero, List.set_cons_succ, i64_w, i32_w]
  rfl
 refine pure_ (i := 1) (N := some 37) (v := ?_) (a' := ?_) #[true, true, false, false, false, false, false, false, false, false, false, false] rfl rfl (any_of HT_.out p8z) (fun _ _ _ h => h) (Or.inl ⟨by rfl, ?_⟩) ?_ ?_
 rotate_left
 ·intro w'
  go_simp
  with_reducible rfl
 rotate_left
 ·simp only [Act.put, List.setIfInBounds_toArray, List.set_cons_zero, List.set_cons_succ, i64_w, i32_w]
  rfl
 refine pure_ (i := 2) (N := some 38) (v := ?_) (a' := ?_) #[true, true, true, false, false, false, false, false, false, false, false, false] rfl rfl (any_of HT_.out p8z) (fun _ _ _ h => h) (Or.inl ⟨by rfl, ?_⟩) ?_ ?_
 rotate_left
 ·intro w'
  go_simp
  with_reducible rfl
 rotate_left
 ·simp only [Act.put, List.setIfInBounds_toArray, List.set_cons_zero, List.set_cons_succ, i64_w, i32_w]
  rfl
 refine pure_ (i := 3) (N := some 39) (v := ?_) (a' := ?_) #[true, true, true, true, false, false, false, false, false, false, false, false] rfl rfl (any_of HT_.out p8z) (fun _ _ _ h => h) (Or.inl ⟨by rfl, ?_⟩) ?_ ?_
 rotate_left
 ·intro w'
  go_simp
  with_reducible rfl
 rotate_left
 ·simp only [Act.put, List.setIfInBounds_toArray, List.set_cons_zero, List.set_cons_succ, i64_w, i32_w]
  rfl
 refine pure_ (i := 5) (N := some 41) (v := ?_) (a' := ?_) #[true, true, true, true, false, true, false, false, false, false, false, false] rfl rfl (any_of HT_.out p8z) (fun _ _ _ h => h) (Or.inl ⟨by rfl, ?_⟩) ?_ ?_
 rotate_left
 ·intro w'
  go_simp
  with_reducible rfl
 rotate_left
 ·simp only [Act.put, List.setIfInBounds_toArray, List.set_cons_zero, List.set_cons_succ, i64_w, i32_w]
  rfl
 refine pure_ (i := 6) (N := some 42) (v := ?_) (a' := ?_) #[true, true, true, true, false, true, true, false, false, false, false, false] rfl rfl (any_of HT_.out p8z) (fun _ _ _ h => h) (Or.inl ⟨by rfl, ?_⟩) ?_ ?_
 rotate_left
 ·intro w'
  go_simp
  with_reducible rfl
 rotate_left
 ·simp only [Act.put, List.setIfInBounds_toArray, List.set_cons_zero, List.set_cons_succ, i64_w, i32_w]
  rfl
 refine pure_ (i := 7) (N := some 43) (v := ?_) (a' := ?_) #[true, true, true, true, false, true, true, true, false, false, false, false] rfl rfl (any_of HT_.out p8z) (fun _ _ _ h => h) (Or.inl ⟨by rfl, ?_⟩) ?_ ?_
 rotate_left
 ·intro w'
  go_simp
  with_reducible rfl
 rotate_left
 ·simp only [Act.put, List.setIfInBounds_toArray, List.set_cons_zero, List.set_cons_succ, i64_w, i32_w]
  rfl
 refine take_ (i := 4) (N := some 40) (v := ?_) (a' := ?_) #[true, true, true, true, true, true, true, true, false, false, false, false] rfl rfl (take_ofW HT_.out HW_.out p8z) (fun _ _ _ h => h) (Or.inl ⟨by rfl, ?_⟩) hHeld ?_ ?_
 rotate_left
 ·rintro w' ⟨s0, s1⟩
  go_simp
  with_reducible rfl
 rotate_left
 ·simp only [Act.put, List.setIfInBounds_toArray, List.set_cons_zero, List.set_cons_succ, i64_w, i32_w]
  rfl
 refine take_ (i := 8) (N := some 44) (v := ?_) (a' := ?_) #[true, true, true, true, true, true, true, true, true, false, false, false] rfl rfl (take_ofW HT_.out HW_.out p8z) (fun _ _ _ h => h) (Or.inl ⟨by rfl, ?_⟩) hHeld ?_ ?_
 rotate_left
 ·rintro w' ⟨s0, s1⟩
  go_simp
  with_reducible rfl
 rotate_left
 ·simp only [Act.put, List.setIfInBounds_toArray, List.set_cons_zero, List.set_cons_succ, i64_w, i32_w]
  rfl
 have hO := hQ7.out (.int .i64 0) (.string ⟨#[]⟩) (.slice none 0 0) (.slice none 0 0)
 have hc0 := cell_of (i := 0) hQ7.b0 rfl
 have hc1 := cell_of (i := 1) hQ7.b0 rfl
 have hc2 := cell_of (i := 2) hQ7.b0 rfl
 have hc3 := cell_of (i := 3) hQ7.b0 rfl
 have hf0 := blk_frozen hQ7.b0 0
 have hf1 := blk_frozen hQ7.b0 1
 have hf2 := blk_frozen hQ7.b0 2
 have hf3 := blk_frozen hQ7.b0 3
 have hst9 := (((hQ7.st.far hn1.symm (p := ⟨w.heap.size, 0, none⟩) (.int .i64 0)).far hn1.symm (p := ⟨w.heap.size, 1, none⟩) (.string ⟨#[]⟩)).far hn1.symm (p := ⟨w.heap.size, 2, none⟩) (.slice none 0 0)).far hn1.symm (p := ⟨w.heap.size, 3, none⟩) (.slice none 0 0)
 refine one_ (i := 9) (N := none) #[true, true, true, true, true, true, true, true, true, true, false, false] rfl rfl (one_of HT_.out p8z) (by decide) (fun K hK => ?_)
 refine skip_ (w1 := ?_) (by rfl) rfl ?_ ?_
 rotate_left
 ·go_simp
  rfl
 refine hK.out _ _ ⟨cellS95_3 hst9.1, cellS95_4 hst9.1⟩ (fun hHeld => ?_)
 clear hK K hst9 hc0 hc1 hc2 hc3 hf0 hf1 hf2 hf3 hQ7
 refine pure_ (i := 10) (N := some 3) (v := ?_) (a' := ?_) #[true, true, true, true, true, true, true, true, true, true, true, false] rfl rfl (any_of HT_.out p8z) (fun _ _ _ h => h) (Or.inl ⟨by rfl, ?_⟩) ?_ ?_
 rotate_left
 ·intro w'
  go_simp
  with_reducible rfl
 rotate_left
 ·simp only [Act.put, List.setIfInBounds_toArray, List.set_cons_zero, List.set_cons_succ, i64_w, i32_w]
  rfl
 refine pure_ (i := 11) (N := some 4) (v := ?_) (a' := ?_) #[true, true, true, true, true, true, true, true, true, true, true, true] rfl rfl (any_of HT_.out p8z) (fun _ _ _ h => h) (Or.inl ⟨by rfl, ?_⟩) ?_ ?_
 rotate_left
 ·intro w'
  go_simp
  with_reducible rfl
 rotate_left
 ·simp only [Act.put, List.setIfInBounds_toArray, List.set_cons_zero, List.set_cons_succ, i64_w, i32_w]
  rfl
 refine done_ (done_of HT_.out p8z) ?_
 clear HT_ HW_
 have HO := Aside0.mk hO
 clear hO
 go_wp2
 refine bodyPost_ret (results_rparse rfl rfl rfl HO.out.1 rfl) rfl ?_
 rw [hRF]
 exact RParseOut.zero HO.out.2.2.2
def signetryref14_Parse.f (k : Nat) (a0 : ByteArray) : Option (Int × ByteArray × List ByteArray × List S37 × Int × Int) := if (a0.size : Int) ≤ 1000 then some ((rparseF a0).1.f0, (rparseF a0).1.f1, (rparseF a0).1.f2, (rparseF a0).1.f3, (rparseF a0).2.1, (rparseF a0).2.2) else none
theorem signetryref14_Parse.mono : ∀ a0 k, LeO (signetryref14_Parse.f k a0) (signetryref14_Parse.f (k + 1) a0) := fun _ _ => LeO.refl _
theorem signetryref14_Parse.calls (k : Nat) (a0 : ByteArray) (r0 : Int) (r1 : ByteArray) (r2 : List ByteArray) (r3 : List S37) (r4 r5 : Int) (w : World) (h : signetryref14_Parse.f k a0 = some (r0, r1, r2, r3, r4, r5)) :
 Calls Tryz.prog 24 #[.string a0] w fun e w' => ∃ v0_ v1_ : Value, e = .returned (.tuple #[.agg #[.int .i64 r0, .string r1, v0_, v1_], .int .i64 r4, .int .i64 r5]) ∧ Kd.R Kd.string 9 w' w.heap.size (fun _ => True) v0_ r2 ∧ Kd.R k37 37 w' w.heap.size (fun k_ => some k_ ≠ (v0_ : Value).ownBlock) v1_ r3 ∧ Below w.heap.size w w' := by
 unfold signetryref14_Parse.f at h
 split at h
 ·simp only [Option.some.injEq, Prod.mk.injEq] at h
  obtain ⟨rfl, rfl, rfl, rfl, rfl, rfl⟩ := h
  exact rparse_calls a0 w (by omega)
 ·cases h
end Go.Proofs.YtodnggilomanbaaGreatDoor.Hand
end
