/-
  jtree: Copy of any node: slices.Clone of texts and of nodes, the loop's relation, the walk, the contract.
-/
import Derived.Test.YtodnggilomanbaaGreatDoorAp
import Derived.Test.YtodnggilomanbaaGreatDoorHandStep
import Derived.Test.YtodnggilomanbaaGreatDoorHandSame
import Derived.Test.YtodnggilomanbaaGreatDoorHandAa
set_option maxRecDepth 100000
set_option maxHeartbeats 8000000
namespace Go.Proofs.YtodnggilomanbaaGreatDoor.Hand
open Go.RowKit Go.Lib Go.Proofs.YtodnggilomanbaaGreatDoorW.PrintWords Go.Proofs.YtodnggilomanbaaGreatDoorW.PrintLast Go.Proofs.YtodnggilomanbaaGreatDoorW.PrintMore Go.Proofs.YtodnggilomanbaaGreatDoor.PAll
set_option linter.unusedVariables false
set_option linter.unusedSimpArgs false

def Copy_r1.T : Bool × List (List Nat × List Nat) := (true, [([], []), ([0], [0]), ([1], [1]), ([], []), ([3], [3]), ([4, 2], [4]), ([0, 1, 2, 3, 4], []), ([6, 2, 5, 0, 1, 2, 3, 4], [2, 6]), ([0, 1, 2, 3, 4, 5, 6, 7], []), ([8, 5, 7, 0, 1, 2, 3, 4, 5, 6, 7], [5, 8])])
def Copy_r1.B : List Nat := [0, 1, 3, 0, 8, 24, 31, 95, 255, 511]
theorem Copy_r1.tab : rtab .any (opsOf Tryz.f17 1) = Copy_r1.T := p12z
theorem Copy_r1.bits : waitsOk Copy_r1.T.2 Copy_r1.B = true := p12z
/-- A row of nodes that is read: its cells, element by element. -/
theorem rows_of_C {w : World} {A : Option Addr} {n : Nat} {xs : List S28} (h : Kd.C k28 w A n xs) :
 ∃ rows : List (List Value), rows.length = n ∧ Kd.C (Kd.raw 4) w A n rows ∧ ∀ (j : Nat) (x : S28), xs[j]? = some x → ∃ c, rows[j]? = some c ∧ k28.K w x c := by
 obtain ⟨hl, hm, ha⟩ := h
 rcases Nat.eq_zero_or_pos n with h0 | h0
 ·subst h0
  refine ⟨[], rfl, ⟨rfl, by omega, fun h => by omega⟩, fun j x hx => ?_⟩
  have : xs = [] := List.eq_nil_of_length_eq_zero hl
  subst this
  simp at hx
 ·obtain ⟨ad, rfl, hc⟩ := ha h0
  have hex : ∀ (m : Nat), m ≤ xs.length → ∃ rows : List (List Value), rows.length = m ∧ ∀ (j : Nat) (x : S28), j < m → xs[j]? = some x → ∃ c, rows[j]? = some c ∧ c.length = 4 ∧ k28.K w x c ∧ ∀ i u, c[i]? = some u → w.cell? (ad.add (j * 4 + i)) = some u := by
   intro m
   induction m with
   | zero => exact fun _ => ⟨[], rfl, fun j x hj => by omega⟩
   | succ m ih =>
    intro hm2
    obtain ⟨rows, hr, hrow⟩ := ih (by omega)
    obtain ⟨c, c1, c2, c3⟩ := hc m _ (List.getElem?_eq_getElem (show m < xs.length by omega))
    refine ⟨rows ++ [c], by simp [hr], fun j x hj hx => ?_⟩
    by_cases hjm : j < m
    case pos =>
     obtain ⟨c', e1, e2⟩ := hrow j x hjm hx
     exact ⟨c', by rw [List.getElem?_append_left (by omega)]; exact e1, e2⟩
    have : j = m := by omega
    subst this
    rw [List.getElem?_eq_getElem (show j < xs.length by omega)] at hx
    cases hx
    exact ⟨c, by rw [List.getElem?_append_right (by omega), hr]; simp, c1, c2, c3⟩
  obtain ⟨rows, hr, hrow⟩ := hex xs.length (Nat.le_refl _)
  refine ⟨rows, by omega, ⟨by omega, hm, fun _ => ⟨ad, rfl, fun j p hp => ?_⟩⟩, fun j x hx => ?_⟩
  ·have hj : j < xs.length := by
    have := (List.getElem?_eq_some_iff.1 hp).1
    omega
   obtain ⟨c, e1, e2, e3, e4⟩ := hrow j _ hj (List.getElem?_eq_getElem hj)
   rw [hp] at e1
   cases e1
   exact ⟨p, e2, ⟨rfl, e2, k28.K_one e3⟩, e4⟩
  ·have hj : j < xs.length := (List.getElem?_eq_some_iff.1 hx).1
   obtain ⟨c, e1, e2, e3, e4⟩ := hrow j x hj hx
   exact ⟨c, e1, e3⟩
theorem info28' : (Tryz.prog.info? 28).map (fun i => (i.zero, i.size, i.bytes)) = some (some (.agg #[(.int .i64 0), (.string ⟨#[]⟩), (.slice none 0 0), (.slice none 0 0)]), 4, 72) := p12z
theorem iz (A : Option Addr) (n c : Nat) (rows : List (List Value)) (w : World) (hr : rows.length = n) (hR : Kd.C (Kd.raw 4) w A n rows) (hn : n * 72 ≤ 140737488355328) : Calls Tryz.prog 44 #[.slice A n c] w fun e w' => ∃ v : Value, e = .returned v ∧ (Kd.raw 4).R 28 w' w.heap.size (fun _ => True) v rows ∧ Below w.heap.size w w' := by
 cases A with
 | none =>
  have heq : ∀ (w : World) (n c : Nat), (binOp .eql 26 (.slice none n c) (.slice none 0 0)).run Tryz.prog w = .ok (.bool true) w := fun w n c => Lib.run_eql_slice_nil (P := Tryz.prog) w 26 28 none n c 0 0 Tryz.underlying26
  have h0 : n = 0 := by
   rcases Nat.eq_zero_or_pos n with h | h
   ·exact h
   ·obtain ⟨ad, e, _⟩ := hR.2.2 h
    cases e
  subst h0
  have : rows = [] := List.eq_nil_of_length_eq_zero hr
  subst this
  go_enter Tryz.func44, Tryz.ntmps44
  go_wp2
  go_ret
  exact ⟨_, rfl, Kd.R_nil _ _ _ _ _, Below.refl _ _⟩
 | some ad =>
  have heq : ∀ (w : World) (n c : Nat), (binOp .eql 26 (.slice (some ad) n c) (.slice none 0 0)).run Tryz.prog w = .ok (.bool false) w := fun w n c => Lib.run_eql_slice_nil (P := Tryz.prog) w 26 28 (some ad) n c 0 0 Tryz.underlying26
  go_enter Tryz.func44, Tryz.ntmps44
  go_wp2_with (first
   | ((with_reducible refine gate_dst (N := 5) rfl ?_); refine Kd.R_lit (Kd.raw 4) (w0 := w) w.heap.size 28 ?hg (N := 5) ?hd (xs := ([] : List (List Value))) (inner := []) (ok := fun _ => True) (okp := fun _ => True) ?hr (Reps.none _ _) (fun _ hk => hk) trivial (Below.refl _ _) (Nat.le_refl _) (by simp) ?_; (case hd => rfl); (case hg => rfl); (case hr => exact p9z); intro v1 w1 ho1 hb1 hg1 hn1)
   | ((with_reducible refine gate_builtin (b := .append) (xs := #[.tmp 5, .tmp 6]) rfl ?_); at_builtin; refine Kd.R_append_rows (Kd.raw 4) (w0 := w) w.heap.size rfl (.tmp 5) (.tmp 6) 26 28 _ 72 rfl Tryz.underlying26 info28' rfl (by decide) (by omega) v1 [] rows (some ad) n c (fun _ => True) (fun _ => False) rfl rfl ho1 ?aR (fun _ _ h => h) (fun _ h => h.elim) (fun _ _ => trivial) hb1 hb1.size ?aL ?_; (case aL => simp only [List.length_nil]; omega); (case aR => exact Kd.C_below (d := Kd.raw 4) hR hb1); intro v2 w2 ho2 hb2 hg2 hn2))
  go_ret
  exact ⟨_, rfl, ho2, hb2⟩
theorem info9' : (Tryz.prog.info? 9).map (fun i => (i.zero, i.size, i.bytes)) = some (some (.string ⟨#[]⟩), 1, 16) := p12z
theorem iA (A : Option Addr) (n c : Nat) (xs : List ByteArray) (w : World) (hC : Kd.C Kd.string w A n xs) (hn : n * 16 ≤ 140737488355328) : Calls Tryz.prog 43 #[.slice A n c] w fun e w' => ∃ v : Value, e = .returned v ∧ Kd.R Kd.string 9 w' w.heap.size (fun _ => True) v xs ∧ Below w.heap.size w w' := by
 cases A with
 | none =>
  have heq : ∀ (w : World) (n c : Nat), (binOp .eql 22 (.slice none n c) (.slice none 0 0)).run Tryz.prog w = .ok (.bool true) w := fun w n c => Lib.run_eql_slice_nil (P := Tryz.prog) w 22 9 none n c 0 0 Tryz.underlying22
  have h0 : n = 0 := by
   rcases Nat.eq_zero_or_pos n with h | h
   ·exact h
   ·obtain ⟨ad, e, _⟩ := hC.2.2 h
    cases e
  subst h0
  have : xs = [] := List.eq_nil_of_length_eq_zero hC.1
  subst this
  go_enter Tryz.func43, Tryz.ntmps43
  go_wp2
  go_ret
  exact ⟨_, rfl, Kd.R_nil _ _ _ _ _, Below.refl _ _⟩
 | some ad =>
  have heq : ∀ (w : World) (n c : Nat), (binOp .eql 22 (.slice (some ad) n c) (.slice none 0 0)).run Tryz.prog w = .ok (.bool false) w := fun w n c => Lib.run_eql_slice_nil (P := Tryz.prog) w 22 9 (some ad) n c 0 0 Tryz.underlying22
  go_enter Tryz.func43, Tryz.ntmps43
  go_wp2_with (first
   | ((with_reducible refine gate_dst (N := 5) rfl ?_); refine Kd.R_lit Kd.string (w0 := w) w.heap.size 9 ?hg (N := 5) ?hd (xs := ([] : List ByteArray)) (inner := []) (ok := fun _ => True) (okp := fun _ => True) ?hr (Reps.none _ _) (fun _ hk => hk) trivial (Below.refl _ _) (Nat.le_refl _) (by simp) ?_; (case hd => rfl); (case hg => rfl); (case hr => exact p9z); intro v1 w1 ho1 hb1 hg1 hn1)
   | ((with_reducible refine gate_builtin (b := .append) (xs := #[.tmp 5, .tmp 6]) rfl ?_); at_builtin; refine Kd.R_append_rows Kd.string (w0 := w) w.heap.size rfl (.tmp 5) (.tmp 6) 22 9 _ 16 rfl Tryz.underlying22 info9' rfl (by decide) (by omega) v1 [] xs (some ad) n c (fun _ => True) (fun _ => False) rfl rfl ho1 ?aR (fun _ _ h => h) (fun _ h => h.elim) (fun _ _ => trivial) hb1 hb1.size ?aL ?_; (case aL => simp only [List.length_nil]; omega); (case aR => exact Kd.C_below hC hb1); intro v2 w2 ho2 hb2 hg2 hn2))
  go_ret
  exact ⟨_, rfl, ho2, hb2⟩
/-- A row of cells whose elements are nodes of the call's own is a row of these nodes. -/
theorem raw_to_R {W : World} {base : Nat} {ok : Nat → Prop} {v : Value} {L : List S28} {rows : List (List Value)} (hr : (Kd.raw 4).R 28 W base ok v rows) (hl : rows.length = L.length)
 (hM : ∀ (j : Nat) (x : S28) (c : List Value), L[j]? = some x → rows[j]? = some c → k28.M W base (fun k => ok k ∧ some k ≠ v.ownBlock) x c) : Kd.R k28 28 W base ok v L := by
 obtain ⟨hok, inner, hown, hrl, hrep⟩ := hr
 refine ⟨hok, inner, ?_, ?_, fun j x hx => ?_⟩
 ·rw [← hl]
  exact hown
 ·rw [hrl, hl]
  rfl
 ·have hj : j < rows.length := by
   have := (List.getElem?_eq_some_iff.1 hx).1
   omega
  have hp := hrep j _ (List.getElem?_eq_getElem hj)
  have h1 := hM j x _ hx (List.getElem?_eq_getElem hj)
  have h2 : ((inner.drop (j * 4)).take 4) = rows[j] := hp.1
  show k28.M W base _ x ((inner.drop (j * 4)).take 4)
  rw [h2]
  exact h1
/-- Ahead of round i: the first i elements of the row are nodes of the call's own, the others are as they came in. -/
structure CpRel (x : S28) (w : World) (q r : Nat) (V : Option Addr) (C : Nat) (A : Option Addr) (n c : Nat) (i : Nat) (W : World) (rows : List (List Value)) : Prop where
  le : i ≤ n
  nl : n = x.f3.length
  len : rows.length = n
  row : (Kd.raw 4).R 28 W w.heap.size (fun k => (k ≠ q ∧ k ≠ r) ∧ some k ≠ (Value.slice V x.f2.length C).ownBlock) (.slice A n c) rows
  old : ∀ (j : Nat) (y : S28), i ≤ j → x.f3[j]? = some y → ∃ cs, rows[j]? = some cs ∧ k28.K w y cs
  new : ∀ (j : Nat) (y : S28), j < i → x.f3[j]? = some y → ∃ cs, rows[j]? = some cs ∧ k28.M W w.heap.size (fun k => ((k ≠ q ∧ k ≠ r) ∧ some k ≠ (Value.slice V x.f2.length C).ownBlock) ∧ some k ≠ (Value.slice A n c).ownBlock) y cs
  keys : Kd.R Kd.string 9 W w.heap.size (fun k => k ≠ q ∧ k ≠ r) (.slice V x.f2.length C) x.f2
  bq : W.heap[q]? = some (.cells #[.int .i64 x.f0, .string x.f1, .slice V x.f2.length C, .slice A n c] 28 (0, 0))
  br : W.heap[r]? = some (.cells zcells 28 (0, 0))
  bl : Below w.heap.size w W
section
variable {x y : S28} {w W W1 : World} {q r : Nat} {V A : Option Addr} {C n c i : Nat} {rows : List (List Value)}
/-- What makes no change in what there was. -/
theorem CpRel.below (H : CpRel x w q r V C A n c i W rows) (hb : Below W.heap.size W W1) : CpRel x w q r V C A n c i W1 rows where
  le := H.le
  nl := H.nl
  len := H.len
  row := Kd.R_below H.row hb
  old := H.old
  new := fun j y hj hy => by
    obtain ⟨cs, e, hM⟩ := H.new j y hj hy
    exact ⟨cs, e, k28.M_mono (fun _ hk => hk.1) (k28.M_move (fun k hk => hb.block k hk.2.2.1) (k28.M_bound hM))⟩
  keys := Kd.R_below H.keys hb
  bq := blk_below H.bq hb
  br := blk_below H.br hb
  bl := below_step H.bl hb
/-- A new node in place of an element. -/
theorem CpRel.next {g : Nat} (H : CpRel x w q r V C (some ⟨g, 0, none⟩) n c i W rows) (hi : i < n) (hb : Below W.heap.size W W1) (hy : x.f3[i]? = some y) {cs : List Value}
 (hM : k28.M W1 W.heap.size (fun _ => True) y cs) : CpRel x w q r V C (some ⟨g, 0, none⟩) n c (i + 1) (W1.setCells g (i * 4) cs) (rows.set i cs) := by
 have H1 := H.below hb
 have hcl : cs.length = 4 := k28.K_len (k28.K_of_M hM)
 have hone := k28.K_one (k28.K_of_M hM)
 have hgq := Kd.R_lt H.row g (by simp [Value.ownBlock])
 have hgok := H.row.1 g (by simp [Value.ownBlock])
 have hgb := Kd.R_base H.row g (by simp [Value.ownBlock])
 have hvlt := Kd.R_lt H.keys
 have hqlt := blk_lt H.bq
 have hrlt := blk_lt H.br
 have hfar : ∀ k, k ≠ g → (W1.setCells g (i * 4) cs).heap[k]? = W1.heap[k]? := fun k hk => setCells_far cs _ k hk
 obtain ⟨p, hpl, hpM, hpc⟩ := Kd.R_getA H1.row ([] : List Value) (i : Int) (by omega) (by omega)
 have hpc : ∀ j u, p[j]? = some u → W1.cell? ⟨g, (i : Int).toNat * 4 + j, none⟩ = some u := by
  intro j u hu
  have := hpc j u hu
  rw [add_at, Nat.zero_add] at this
  exact this
 have hseg := Kd.R_seg (x' := cs) (okp := fun _ => False) H1.row (i : Int) (by omega) (by omega) (seg := cs) (j := 0) hpl hpc (by rw [hcl]; exact Nat.le_refl _) (by
  have e : p.take 0 ++ cs ++ p.drop (0 + cs.length) = cs := by
   rw [List.take_zero, List.nil_append, List.drop_eq_nil_iff.2 (by rw [hcl, hpl]; exact Nat.le_refl _), List.append_nil]
  rw [e]
  exact ⟨rfl, hcl, hone⟩) (fun _ hk => hk.elim)
 have et : (i : Int).toNat * (Kd.raw 4).sz + 0 = i * 4 := by rw [Int.toNat_natCast]; rfl
 rw [et, Int.toNat_natCast] at hseg
 refine ⟨by omega, H.nl, by rw [List.length_set]; exact H.len, hseg.1, ?_, ?_, ?_, ?_, ?_, ?_⟩
 ·intro j z hj hz
  obtain ⟨c', e, hK⟩ := H.old j z (by omega) hz
  exact ⟨c', by rw [List.getElem?_set_ne (by omega)]; exact e, hK⟩
 ·intro j z hj hz
  by_cases hji : j = i
  case neg =>
   obtain ⟨c', e, hM'⟩ := H1.new j z (by omega) hz
   refine ⟨c', by rw [List.getElem?_set_ne (by omega)]; exact e, ?_⟩
   exact k28.M_move (fun k hk => hfar k (fun e => hk.2 (by rw [e]; simp [Value.ownBlock]))) hM'
  subst hji
  rw [hy] at hz
  cases hz
  refine ⟨cs, by rw [List.getElem?_set_self (by rw [H.len]; exact hi)], ?_⟩
  have h1 := k28.M_bound hM
  have h2 := k28.M_move (w1 := W1.setCells g (j * 4) cs) (fun k hk => hfar k p114z) h1
  refine k28.M_lower H.bl.size (k28.M_mono (fun k hk => ?_) h2)
  have := hk.2.1
  refine ⟨⟨⟨by omega, by omega⟩, fun e => ?_⟩, fun e => ?_⟩
  ·have := hvlt k e.symm
   omega
  ·have := Kd.R_lt H.row k e.symm
   omega
 ·obtain ⟨cells, hgt⟩ := Kd.R_typed H1.row g (by simp [Value.ownBlock])
  exact Kd.R_mono (Kd.R_move (Kd.R_types H1.keys hgt (by decide)) (fun k hk => hfar k hk.2)) (fun k hk => hk.1)
 ·rw [hfar q hgok.1.1.symm]
  exact H1.bq
 ·rw [hfar r hgok.1.2.symm]
  exact H1.br
 ·exact ⟨hseg.2.os.trans H1.bl.os, hseg.2.tape.trans H1.bl.tape, hseg.2.output.trans H1.bl.output, Nat.le_trans H1.bl.size hseg.2.size, fun k hk => by
   rw [hfar k (by omega)]
   exact H1.bl.block k hk⟩
/-- The element of round i. -/
theorem CpRel.at (H : CpRel x w q r V C A n c i W rows) (hi : i < n) : ∃ (y : S28) (ad : Addr) (g : Nat) (A2 : Option Addr) (c2 : Nat) (A3 : Option Addr) (c3 : Nat), x.f3[i]? = some y ∧ A = some ad ∧ ad = ⟨g, 0, none⟩ ∧
    (W.cell? (ad.add (i * 4)) = some (.int .i64 y.f0) ∧ W.cell? ⟨(ad.add (i * 4)).block, (ad.add (i * 4)).off + 1, none⟩ = some (.string y.f1) ∧ W.cell? ⟨(ad.add (i * 4)).block, (ad.add (i * 4)).off + 2, none⟩ = some (.slice A2 y.f2.length c2) ∧ W.cell? ⟨(ad.add (i * 4)).block, (ad.add (i * 4)).off + 3, none⟩ = some (.slice A3 y.f3.length c3)) ∧
    y.f2.length ≤ c2 ∧ Kd.string.C w A2 y.f2.length y.f2 ∧ y.f3.length ≤ c3 ∧ k28.C w A3 y.f3.length y.f3 := by
  have hlt : i < x.f3.length := by have := H.nl; omega
  obtain ⟨cs, e, hK⟩ := H.old i _ (Nat.le_refl _) (List.getElem?_eq_getElem hlt)
  obtain ⟨A2, c2, A3, c3, rfl, l2, g2, l3, g3⟩ := k28_open hK
  obtain ⟨A', c', e2, _, hC⟩ := Kd.R_reads H.row
  cases e2
  obtain ⟨ad, rfl, hcell⟩ := hC.2.2 (by omega)
  obtain ⟨g, rfl⟩ := Kd.R_head H.row
  obtain ⟨c'', hl, _, hc⟩ := hcell i _ e
  have hcc : c'' = [.int .i64 (x.f3[i]).f0, .string (x.f3[i]).f1, .slice A2 (x.f3[i]).f2.length c2, .slice A3 (x.f3[i]).f3.length c3] := by
    rename_i hM
    exact hM.1
  subst hcc
  have hc : ∀ j u, [Value.int .i64 (x.f3[i]).f0, .string (x.f3[i]).f1, .slice A2 (x.f3[i]).f2.length c2, .slice A3 (x.f3[i]).f3.length c3][j]? = some u → W.cell? ((⟨g, 0, none⟩ : Addr).add (i * 4 + j)) = some u := hc
  exact ⟨x.f3[i], ⟨g, 0, none⟩, g, A2, c2, A3, c3, List.getElem?_eq_getElem hlt, rfl, rfl, ⟨hc 0 _ rfl, by rw [← add_field _ _ 1 (by omega)]; exact hc 1 _ rfl, by rw [← add_field _ _ 2 (by omega)]; exact hc 2 _ rfl, by rw [← add_field _ _ 3 (by omega)]; exact hc 3 _ rfl⟩, l2, g2, l3, g3⟩
/-- The store of a round. -/
theorem store_run {P : Program} {a : Act} {oi : Oper} {w w1 : World} {t : TypeId} {p x : Operand} (ho : oi.op = .store t p x) {v u : Value} (hp : a.eval p = v) (hx : a.eval x = u) (hr : (Instr.storeAt t v u).run P w = .ok () w1) : (execOp a.eval oi).run P w = .ok .skip w1 := by
  unfold execOp
  simp only [ho, hp, hx, Sem.run_bind, Sem.run_pure, Result.andThen_ok, hr]
theorem put_ar {i n c s : Nat} (h1 : i < n) (h2 : n ≤ c) (h3 : s = c * 4) : i * 4 + 4 ≤ s := by omega
theorem row_put {W : World} {base g n c : Nat} {ok : Nat → Prop} {rows : List (List Value)} (H : (Kd.raw 4).R 28 W base ok (.slice (some ⟨g, 0, none⟩) n c) rows) (hl : rows.length = n) {i : Nat} (hi : i < n) (v0 v1 v2 v3 : Value) (h1 : ∀ q ∈ [v0, v1, v2, v3], q.oneCell' = true) :
 (Instr.storeAt 28 (.pointer (some ((⟨g, 0, none⟩ : Addr).add (i * 4)))) (.agg #[v0, v1, v2, v3])).run Tryz.prog W = .ok () (W.setCells g (i * 4) [v0, v1, v2, v3]) := by
 obtain ⟨_, inner, hown, hr⟩ := H
 rw [add_at, Nat.zero_add]
 rcases hown.2 with ⟨hv, _⟩ | ⟨g', cap', cur, hv, hb, hh, hnc, hcm, hcs, _⟩
 ·cases hv
 injection hv with ha hn hc
 injection ha with ha
 injection ha with hg'
 subst hg'; subst hc
 exact run_store_run 28 (.agg #[v0, v1, v2, v3]) [v0, v1, v2, v3] hh rfl p12z (put_ar hi (by rw [← hl]; exact hnc) hcs) h1
/-- Behind the last round. -/
theorem CpRel.done (H : CpRel x w q r V C A n c i W rows) (hi : n ≤ i) : Kd.R k28 28 W w.heap.size (fun k => (k ≠ q ∧ k ≠ r) ∧ some k ≠ (Value.slice V x.f2.length C).ownBlock) (.slice A n c) x.f3 :=
  raw_to_R H.row (by rw [H.len]; exact H.nl) (fun j y cs hy hcs => by
    have hj : j < x.f3.length := (List.getElem?_eq_some_iff.1 hy).1
    obtain ⟨c', e, hM⟩ := H.new j y (by have := H.nl; omega) hy
    rw [hcs] at e
    cases e
    exact hM)
end
def Copy_r5.T : Bool × List (List Nat × List Nat) := (true, [([], []), ([0], [0]), ([], []), ([], []), ([3], [3]), ([1, 2, 0, 1, 2, 3, 4], [1, 2]), ([5, 4, 4, 0, 1, 2, 3, 4], [4, 5])])
def Copy_r5.B : List Nat := [0, 1, 0, 0, 8, 7, 63]
theorem Copy_r5.tab : rtab .any (opsOf Tryz.f17 5) = Copy_r5.T := p12z
theorem Copy_r5.bits : waitsOk Copy_r5.T.2 Copy_r5.B = true := p12z
/-- below4, over what was made by the world's own. -/
theorem below4s {W W1 : World} {b : Nat} (hb : Below W.heap.size W W1) (hw : W.heap.size ≤ b) (v0 v1 v2 v3 : Value) : Below W.heap.size W ((((W1.setCell ⟨b, 0, none⟩ v0).setCell ⟨b, 1, none⟩ v1).setCell ⟨b, 2, none⟩ v2).setCell ⟨b, 3, none⟩ v3) := below4 hb hw v0 v1 v2 v3
theorem one4 {v2 v3 : Value} (a : Int) (b : ByteArray) (h2 : v2.oneCell' = true) (h3 : v3.oneCell' = true) : ∀ q ∈ [Value.int .i64 a, .string b, v2, v3], q.oneCell' = true := by
  simp only [List.mem_cons, List.not_mem_nil, or_false, forall_eq_or_imp, forall_eq]
  exact ⟨rfl, rfl, h2, h3⟩
def CopyAt (x : S28) : Prop := okN x = true → ∀ (A2 : Option Addr) (c2 : Nat) (A3 : Option Addr) (c3 : Nat) (w : World), Kd.C Kd.string w A2 x.f2.length x.f2 → x.f2.length ≤ c2 → Kd.C k28 w A3 x.f3.length x.f3 → x.f3.length ≤ c3 →
  Calls Tryz.prog 17 #[nodeV x A2 c2 A3 c3] w fun e w' => ∃ v2 v3 : Value, e = .returned (.agg #[.int .i64 x.f0, .string x.f1, v2, v3]) ∧ Kd.R Kd.string 9 w' w.heap.size (fun _ => True) v2 x.f2 ∧ Kd.R k28 28 w' w.heap.size (fun k_ => some k_ ≠ (v2 : Value).ownBlock) v3 x.f3 ∧ Below w.heap.size w w'
theorem copy_step (x : S28) (hS : ∀ y ∈ x.f3, CopyAt y) : CopyAt x := by
 intro hok A2 c2 A3 c3 w hC2 hc2 hC3 hc3
 obtain ⟨ok2, ok3, ok4⟩ := okN_at hok
 have hn2 : x.f2.length * 16 ≤ 140737488355328 := by omega
 have hn3 : x.f3.length * 72 ≤ 140737488355328 := by omega
 have HOK := hid (And.intro hok (And.intro hc2 (And.intro hc3 ok4)))
 clear ok2 ok3 ok4 hok hc2 hc3
 obtain ⟨rows, hrl, hCr, hrx⟩ := rows_of_C hC3
 go_enter Tryz.func17, Tryz.ntmps17
 go_upto_region 1 with (first
  | ((with_reducible refine gate_dst (N := 1) rfl ?_); refine box_event ?hg (N := 1) ?hd (cs := #[.int .i64 x.f0, .string x.f1, .slice A2 x.f2.length c2, .slice A3 x.f3.length c3]) (t := 28) ?hr ?_; (case hd => rfl); (case hg => rfl); (case hr => exact p9z); intro q xq wq bq hbq; have GQ := hid xq; have BQ := hid bq; have HQ := hid hbq; clear xq bq hbq)
  | ((with_reducible refine gate_dst (N := 2) rfl ?_); refine box_event ?hg (N := 2) ?hd (cs := zcells) (t := 28) ?hr ?_; (case hd => rfl); (case hg => rfl); (case hr => exact p9z); intro r xr wr br hbr; have GR := hid xr; have BR := hid br; have HR := hid hbr; clear xr br hbr))
 have hQ := blk_below BQ.out HR.out
 have hR := BR.out
 have nqr : q ≠ r := by have := blk_lt BQ.out; rw [GR.out]; omega
 have gq : w.heap.size ≤ q := by rw [GQ.out]; omega
 have gr : w.heap.size ≤ r := by rw [GR.out]; exact HQ.out.size
 have hB := below_step HQ.out HR.out
 clear BQ BR HQ HR GQ GR
 have hz2 := cell_of (i := 2) hQ rfl
 have hz3 := cell_of (i := 3) hQ rfl
 refine start_ (n := 10) (S := fun w' => w'.cell? ⟨q, 2, none⟩ = some (.slice A2 x.f2.length c2) ∧ w'.cell? ⟨q, 3, none⟩ = some (.slice A3 x.f3.length c3)) (ds := [7, 9]) (tf 0 10) p12z rfl rfl ⟨hz2, hz3⟩ (fun hHeld => ?_); refine with_tabW Copy_r1.tab Copy_r1.bits (fun HT_ HW_ => ?_)
 have hQ := blk_drew hQ
 have hR := blk_drew hR
 have HBd := hid (below_drew1 hB)
 have HLT : Hid (q < wr.drew.heap.size ∧ r < wr.drew.heap.size) := hid ⟨blk_lt hQ, blk_lt hR⟩
 clear hB hz2 hz3
 revert hQ hR HBd HLT hHeld
 generalize wr.drew = W8
 intro hHeld hQ hR HBd HLT
 refine pzz 0 (some 5) (tf 1 9) ?_
 refine tzz 1 (some 6) (tf 2 8) ?_
 refine pzz 3 (some 8) (tfs true [2, 1, 1, 6]) ?_
 refine tzz 4 (some 9) (tfs true [2, 1, 2, 5]) ?_
 refine ozz 2 (some 7) (tf 5 5) #[.slice A2 x.f2.length c2] Tryz.func43 (fun K hK => ?_)
 with_reducible refine (iA A2 x.f2.length c2 x.f2 _ (Kd.C_below hC2 HBd.out) hn2).mono ?_
 rintro e w1 ⟨v2, rfl, r2, hb1⟩
 refine ⟨_, rfl, ?_⟩
 refine hK.out _ _ ⟨(hb1.cell (World.block_lt_of_cell? _ _ hHeld.1)).trans hHeld.1, (hb1.cell (World.block_lt_of_cell? _ _ hHeld.2)).trans hHeld.2⟩ (fun hHeld => ?_)
 clear hK K
 refine nzz (some 7) ?_
 obtain ⟨V2, C2, e2⟩ := Kd.R_slice r2
 subst e2
 refine pzz 6 (some 11) (tfs true [5, 1, 1, 3]) ?_
 refine ozz 5 (some 10) (tf 7 3) #[.slice A3 x.f3.length c3] Tryz.func44 (fun K hK => ?_)
 with_reducible refine (iz A3 x.f3.length c3 rows _ hrl (Kd.C_below hCr (below_step HBd.out hb1)) hn3).mono ?_
 rintro e w2 ⟨v3, rfl, r3, hb2⟩
 refine ⟨_, rfl, ?_⟩
 refine hK.out _ _ ⟨(hb2.cell (World.block_lt_of_cell? _ _ hHeld.1)).trans hHeld.1, (hb2.cell (World.block_lt_of_cell? _ _ hHeld.2)).trans hHeld.2⟩ (fun hHeld => ?_)
 clear hK K
 refine nzz (some 10) ?_
 obtain ⟨V3, C3, e3⟩ := Kd.R_slice r3
 rw [hrl] at e3
 subst e3
 have lt1 := Kd.R_lt r2
 have hB1 := below_step HBd.out hb1
 have r3 : (Kd.raw 4).R 28 w2 w.heap.size (fun k => (k ≠ q ∧ k ≠ r) ∧ some k ≠ (Value.slice V2 x.f2.length C2).ownBlock) (.slice V3 x.f3.length C3) rows := Kd.R_lower (Kd.R_mono (Kd.R_bound r3) (fun k hk => by have := hk.2.1; have := hb1.size; have := HLT.out; exact ⟨⟨by omega, by omega⟩, fun e => by have := lt1 k e.symm; omega⟩)) hB1.size
 have r2 : Kd.R Kd.string 9 w2 w.heap.size (fun k => k ≠ q ∧ k ≠ r) (.slice V2 x.f2.length C2) x.f2 := Kd.R_below (Kd.R_lower (Kd.R_mono (Kd.R_bound r2) (fun k hk => by have := hk.2.1; have := HLT.out; constructor <;> omega)) (HBd.out.size)) hb2
 have hB2 := below_step hB1 hb2
 have hQ := blk_below (blk_below hQ hb1) hb2
 have hR := blk_below (blk_below hR hb1) hb2
 clear hB1 lt1 hb1 hb2
 have hc2 := cell_of (i := 2) hQ rfl
 have hf2 := blk_frozen hQ 2
 refine last_ (i := 7) (N := none) (tf 8 2) rfl rfl (one_of HT_.out p12z) (by decide) (fun K hK => ?_)
 refine skip_ (w1 := ?_) (by rfl) rfl ?_ ?_
 rotate_left
 ·go_simp
  rfl
 refine hK.out _ _ ?_
 clear hK K hc2 hf2
 have hQ9 := blk_put (cs' := #[.int .i64 x.f0, .string x.f1, .slice V2 x.f2.length C2, .slice A3 x.f3.length c3]) hQ 2 (.slice V2 x.f2.length C2) rfl
 have hR9 := blk_far (p := ⟨q, 2, none⟩) hR nqr.symm (.slice V2 x.f2.length C2)
 have r2 := Kd.R_far (p := ⟨q, 2, none⟩) r2 (fun k hk => hk.1) (.slice V2 x.f2.length C2)
 have r3 := Kd.R_far (p := ⟨q, 2, none⟩) r3 (fun k hk => hk.1.1) (.slice V2 x.f2.length C2)
 have hB9 := below_set (j := 2) (v := .slice V2 x.f2.length C2) hB2 gq
 clear hQ hR hB2
 refine pzz 8 (some 12) (tf 9 1) ?_
 have hc3 := cell_of (i := 3) hQ9 rfl
 have hf3 := blk_frozen hQ9 3
 refine last_ (i := 9) (N := none) (tf 10 0) rfl rfl (one_of HT_.out p12z) (by decide) (fun K hK => ?_)
 refine skip_ (w1 := ?_) (by rfl) rfl ?_ ?_
 rotate_left
 ·go_simp
  rfl
 have hQ10 := blk_put (cs' := #[.int .i64 x.f0, .string x.f1, .slice V2 x.f2.length C2, .slice V3 x.f3.length C3]) hQ9 3 (.slice V3 x.f3.length C3) rfl
 refine hK.out _ _ ?_
 refine done_ (done_of HT_.out p12z) ?_
 have HC := hid (And.intro (Kd.R_far (p := ⟨q, 3, none⟩) r2 (fun k hk => hk.1) (.slice V3 x.f3.length C3)) (And.intro (Kd.R_far (p := ⟨q, 3, none⟩) r3 (fun k hk => hk.1.1) (.slice V3 x.f3.length C3)) (And.intro hQ10 (And.intro (blk_far (p := ⟨q, 3, none⟩) hR9 nqr.symm (.slice V3 x.f3.length C3)) (below_set (j := 3) (v := .slice V3 x.f3.length C3) hB9 gq)))))
 clear hK K hQ10 hQ9 hR9 r2 r3 hc3 hf3 hB9
 revert HC
 generalize World.setCell (World.setCell _ _ _) _ _ = W10
 intro HC
 clear HBd HLT
 have HREL : Hid (CpRel x w q r V2 C2 V3 x.f3.length C3 0 W10 rows) := hid ⟨Nat.zero_le _, rfl, hrl, HC.out.2.1, fun j y _ hy => hrx j y hy, fun j y hj => absurd hj (Nat.not_lt_zero _), HC.out.1, HC.out.2.2.1, HC.out.2.2.2.1, HC.out.2.2.2.2⟩
 have hz3 := cell_of (i := 3) HC.out.2.2.1 rfl
 have H2 := hid (And.intro hC2 (And.intro hC3 (And.intro hn2 hn3)))
 clear HC hrl hrx hC2 hC3 hn2 hn3 hCr
 go_wp2
 go_loopw [16] (fun v wr => ∃ (i : Nat) (rows : List (List Value)), v = .int .i64 i ∧ CpRel x w q r V2 C2 V3 x.f3.length C3 i wr rows) (fun v _ => x.f3.length - (intOf v).toNat)
 case atStart => exact ⟨0, rows, rfl, HREL.out⟩
 case round =>
  clear HREL hz3
  obtain ⟨i, rs, rfl, hR⟩ := hrel
  rcases Nat.lt_or_ge i x.f3.length with hlt | hge
  ·have hl3 := (okN_at HOK.out.1).2.1
   have hc0 : (0 ≤ (i : Int)) = True := eq_true (by omega)
   have hc1 : ((i : Int) < (x.f3.length : Int)) = True := eq_true (by omega)
   have hb0 : decide ((i : Int) < (x.f3.length : Int)) = true := decide_eq_true (by omega)
   obtain ⟨y, ad, g, A2, cA2, A3, cA3, hy, e1, e2, ⟨xA0, xA1, xA2, xA3⟩, lA2, iA2, lA3, iA3⟩ := hR.at hlt
   subst e1
   have HY := hid (And.intro hy (And.intro iA2 (And.intro lA2 (And.intro iA3 (And.intro lA3 e2)))))
   have HREL := hid hR
   clear hy iA2 lA2 iA3 lA3 e2 hR
   go_upto_region 5 with (((with_reducible refine gate_dst (N := 4) rfl ?_); refine box_event ?hg (N := 4) ?hd (cs := zcells) (t := 28) ?hr ?_; (case hd => rfl); (case hg => rfl); (case hr => exact p9z); intro g8 hg w8 hbox hbw; have BK8 := hid hbox; have GE8 := hid (And.intro hg hbw); have hcz0 := cell_of (i := 0) hbox rfl; have hcz1 := cell_of (i := 1) hbox rfl; have hcz2 := cell_of (i := 2) hbox rfl; have hcz3 := cell_of (i := 3) hbox rfl; have hfz0 := blk_frozen hbox 0; have hfz1 := blk_frozen hbox 1; have hfz2 := blk_frozen hbox 2; have hfz3 := blk_frozen hbox 3; clear hbox hbw hg))
   have BK8' := hid (stored4 BK8.out (.int .i64 y.f0) (.string y.f1) (.slice A2 y.f2.length cA2) (.slice A3 y.f3.length cA3))
   have HB8' := hid (below4s (b := g8) GE8.out.2 (Nat.le_of_eq GE8.out.1.symm) (.int .i64 y.f0) (.string y.f1) (.slice A2 y.f2.length cA2) (.slice A3 y.f3.length cA3))
   revert BK8' HB8'
   generalize World.setCell (World.setCell _ _ _) _ _ = W4
   intro BK8c HB8c
   have HR4 := hid (HREL.out.below HB8c.out)
   have hz := cell_of (i := 3) HR4.out.bq rfl
   obtain ⟨hy0, hy1, hy2, hy3, -⟩ := cells4 BK8c.out
   clear hcz0 hcz1 hcz2 hcz3 hfz0 hfz1 hfz2 hfz3 xA0 xA1 xA2 xA3 BK8 BK8c
   have hcall : ∀ W, Below w.heap.size w W → Calls Tryz.prog 17 #[nodeV y A2 cA2 A3 cA3] W _ := fun W hb => hS y (List.mem_of_getElem? HY.out.1) (okL_mem HOK.out.2.2.2 y (List.mem_of_getElem? HY.out.1)) A2 cA2 A3 cA3 W (Kd.C_below HY.out.2.1 hb) HY.out.2.2.1 (Kd.C_below HY.out.2.2.2.1 hb) HY.out.2.2.2.2.1
   refine start_ (n := 7) (S := fun w' => w'.cell? ⟨q, 3, none⟩ = some (.slice (some ad) x.f3.length C3) ∧ w'.cell? ⟨g8, 0, none⟩ = some (.int .i64 y.f0) ∧ w'.cell? ⟨g8, 1, none⟩ = some (.string y.f1) ∧ w'.cell? ⟨g8, 2, none⟩ = some (.slice A2 y.f2.length cA2) ∧ w'.cell? ⟨g8, 3, none⟩ = some (.slice A3 y.f3.length cA3)) (ds := [6]) (tf 0 7) p12z rfl rfl ⟨hz, hy0, hy1, hy2, hy3⟩ (fun hHeld => ?_); refine with_tabW Copy_r5.tab Copy_r5.bits (fun HT_ HW_ => ?_)
   refine pzz 0 (some 21) (tf 1 6) ?_
   refine tzz 1 (some 22) (tf 2 5) ?_
   refine pzz 2 (some 23) (tf 3 4) ?_
   refine tzz 3 (some 24) (tf 4 3) ?_
   refine ozz 4 (some 25) (tf 5 2) #[nodeV y A2 cA2 A3 cA3] Tryz.func17 (fun K hK => ?_)
   with_reducible refine (hcall W4.drew (below_drew1 HR4.out.bl)).mono ?_
   rintro e w1 ⟨v2, v3, rfl, r2, r3, hb1⟩
   refine ⟨_, rfl, ?_⟩
   refine hK.out _ _ ⟨(hb1.cell (World.block_lt_of_cell? _ _ hHeld.1)).trans hHeld.1, (hb1.cell (World.block_lt_of_cell? _ _ hHeld.2.1)).trans hHeld.2.1, (hb1.cell (World.block_lt_of_cell? _ _ hHeld.2.2.1)).trans hHeld.2.2.1, (hb1.cell (World.block_lt_of_cell? _ _ hHeld.2.2.2.1)).trans hHeld.2.2.2.1, (hb1.cell (World.block_lt_of_cell? _ _ hHeld.2.2.2.2)).trans hHeld.2.2.2.2⟩ (fun hHeld => ?_)
   clear hK K
   refine nzz (some 25) ?_
   refine pzz 5 (some 26) (tf 6 1) ?_
   refine last_ (i := 6) (N := none) (tf 7 0) rfl rfl (one_of HT_.out p12z) (by decide) (fun K hK => ?_)
   have hb2 := below_step (below_step HB8c.out (below_drew (Below.refl _ _))) hb1
   obtain ⟨o2, o2'⟩ := Kd.R_val r2
   obtain ⟨o3, o3'⟩ := Kd.R_val r3
   have hsz : wr.heap.size ≤ W4.drew.heap.size := HB8c.out.size
   have hM : k28.M w1 wr.heap.size (fun _ => True) y [.int .i64 y.f0, .string y.f1, v2, v3] := k28_mkM w1 _ _ y (Kd.R_lower r2 hsz) (Kd.R_lower (Kd.R_mono r3 (fun _ _ => trivial)) hsz)
   have HE := hid HY.out.2.2.2.2.2
   obtain rfl := HE.out
   have hnx := hid (CpRel.next HREL.out hlt hb2 HY.out.1 hM)
   have hput := row_put (HREL.out.below hb2).row (HREL.out.below hb2).len hlt (.int .i64 y.f0) (.string y.f1) v2 v3 (one4 y.f0 y.f1 o2' o3')
   refine skip_ (w1 := w1.setCells g (i * 4) [.int .i64 y.f0, .string y.f1, v2, v3]) (by rfl) rfl (store_run rfl rfl rfl hput) ?_
   refine hK.out _ _ ?_
   refine done_ (done_of HT_.out p12z) ?_
   revert hnx
   generalize World.setCells w1 g (i * 4) [.int .i64 y.f0, .string y.f1, v2, v3] = W6
   intro hnx
   clear hK K r2 r3 hb1 hb2 hM hput o2 o2' o3 o3' hsz hHeld
   go_wp2
   exact ⟨⟨i + 1, rs.set i [.int .i64 y.f0, .string y.f1, v2, v3], p91z, hnx.out⟩, p93z⟩
  ·have hb0 : decide ((i : Int) < (x.f3.length : Int)) = false := decide_eq_false (by omega)
   have HREL := hid hR.bl
   have r2 := hR.keys
   have r3 := hR.done hge
   have hQ := hR.bq
   have hRb := hR.br
   clear hR
   obtain ⟨hc0, hc1, hc2, hc3, -⟩ := cells4 hQ
   obtain ⟨hd0, hd1, hd2, hd3, hf0, hf1, hf2, hf3⟩ := cells4 hRb
   go_upto_region 7 with (fail)
   go_wp2
   have hSt := stored4 hRb (.int .i64 x.f0) (.string x.f1) (.slice V2 x.f2.length C2) (.slice V3 x.f3.length C3)
   refine bodyPost_ret (results_cell_row rfl _ _ r 28 #[.int .i64 x.f0, .string x.f1, .slice V2 x.f2.length C2, .slice V3 x.f3.length C3] (0, 0) _ rfl hSt Tryz.underlying28 rfl p12z) rfl ?_
   have q2 := Kd.R_far (p := ⟨r, 3, none⟩) (Kd.R_far (p := ⟨r, 2, none⟩) (Kd.R_far (p := ⟨r, 1, none⟩) (Kd.R_far (p := ⟨r, 0, none⟩) r2 (fun _ hk => hk.2) (.int .i64 x.f0)) (fun _ hk => hk.2) (.string x.f1)) (fun _ hk => hk.2) (.slice V2 x.f2.length C2)) (fun _ hk => hk.2) (.slice V3 x.f3.length C3)
   have q3 := Kd.R_far (p := ⟨r, 3, none⟩) (Kd.R_far (p := ⟨r, 2, none⟩) (Kd.R_far (p := ⟨r, 1, none⟩) (Kd.R_far (p := ⟨r, 0, none⟩) r3 (fun _ hk => hk.1.2) (.int .i64 x.f0)) (fun _ hk => hk.1.2) (.string x.f1)) (fun _ hk => hk.1.2) (.slice V2 x.f2.length C2)) (fun _ hk => hk.1.2) (.slice V3 x.f3.length C3)
   have q4 := below4 HREL.out gr (.int .i64 x.f0) (.string x.f1) (.slice V2 x.f2.length C2) (.slice V3 x.f3.length C3)
   have q2 := Kd.R_mono q2 (ok' := fun _ => True) (fun _ _ => trivial)
   have q3 := Kd.R_mono q3 (ok' := fun k => some k ≠ (Value.slice V2 x.f2.length C2).ownBlock) (fun _ hk => hk.2)
   exact ⟨.slice V2 x.f2.length C2, .slice V3 x.f3.length C3, rfl, q2, q3, q4⟩
theorem copy_all (x : S28) : CopyAt x := copy_step x fun y hy => copy_all y
termination_by SizeOf.sizeOf x
decreasing_by
  have := List.sizeOf_lt_of_mem hy
  have : SizeOf.sizeOf x.f3 < SizeOf.sizeOf x := by cases x; simp only [S28.mk.sizeOf_spec]; omega
  omega
end Go.Proofs.YtodnggilomanbaaGreatDoor.Hand
