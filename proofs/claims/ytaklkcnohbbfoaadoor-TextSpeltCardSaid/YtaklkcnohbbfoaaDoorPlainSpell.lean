/-
  Bytes that are spelt are read as they are, over lists of bytes. No walk.
-/
import Derived.Test.YtaklkcnohbbfoaaDoorPlainQuote
namespace Go.Proofs.YtaklkcnohbbfoaaDoor.Pure
open Go.RowKit Go.Lib Go.Proofs.YtaklkcnohbbfoaaDoor.PAll Go.Proofs.YtaklkcnohbbfoaaDoorW.PrintWords Go.Proofs.YtaklkcnohbbfoaaDoorW.PrintLast Go.Proofs.YtaklkcnohbbfoaaDoorW.PrintMore Go.Proofs.YtaklkcnohbbfoaaDoor.Hand
set_option linter.unusedVariables false
set_option linter.unusedSimpArgs false

/-- X is a spelling of cs. -/
structure Sps (q : Int) (cs X : List Int) : Prop where
  by_ : isBy X = true
  le : X.length ≤ 4 * cs.length
  ge : cs.length ≤ X.length
  rd : ∀ (f : Nat) (rest acc : List Int), uq q (f + cs.length) (X ++ rest) acc = uq q f rest (acc ++ cs)
theorem isBy_append {a b : List Int} (ha : isBy a = true) (hb : isBy b = true) : isBy (a ++ b) = true := by
  refine List.all_eq_true.2 fun x hx => ?_
  rcases List.mem_append.1 hx with h | h
  · exact List.all_eq_true.1 ha x h
  · exact List.all_eq_true.1 hb x h
theorem Sps.nil (q : Int) : Sps q [] [] := ⟨rfl, Nat.le_refl _, Nat.le_refl _, fun f rest acc => by simp⟩
theorem Sps.append {q : Int} {cs ds X Y : List Int} (h : Sps q cs X) (g : Sps q ds Y) : Sps q (cs ++ ds) (X ++ Y) := by
  refine ⟨isBy_append h.by_ g.by_, ?_, ?_, fun f rest acc => ?_⟩
  · have := h.le; have := g.le; simp only [List.length_append]; omega
  · have := h.ge; have := g.ge; simp only [List.length_append]; omega
  · rw [List.length_append, List.append_assoc, show f + (cs.length + ds.length) = (f + ds.length) + cs.length by omega, h.rd, g.rd, List.append_assoc]
theorem isBy_one {c : Int} (h0 : 0 ≤ c) (h1 : c ≤ 255) : isBy [c] = true := by simp [isBy, h0, h1]
theorem isBy_cons {c : Int} {l : List Int} (h0 : 0 ≤ c) (h1 : c ≤ 255) (h : isBy l = true) : isBy (c :: l) = true := by
  have := isBy_append (isBy_one h0 h1) h
  simpa using this
theorem uq_92 {q : Int} (hq : q = 34 ∨ q = 39) (f : Nat) (t acc b : List Int) (n : Nat) (h : escL t = some (b, n)) : uq q (f + 1) (92 :: t) acc = uq q f (t.drop n) (acc ++ b) := by
  rw [uq, if_neg (by rcases hq with rfl | rfl <;> decide), if_neg (by decide), if_pos rfl, h]
theorem sps_plain {q c : Int} (h0 : 32 ≤ c) (h1 : c ≤ 255) (hc : c ≠ q) (h92 : c ≠ 92) : Sps q [c] [c] := by
  refine ⟨isBy_one (by omega) h1, by simp, by simp, fun f rest acc => ?_⟩
  rw [List.length_cons, List.length_nil, List.cons_append, List.nil_append, uq, if_neg hc, if_neg (by omega), if_neg h92]
theorem sps_esc {q c x : Int} (hq : q = 34 ∨ q = 39) (x0 : 0 ≤ x) (x1 : x ≤ 255) (hx : escH x = true) (hv : escV x = c) : Sps q [c] [92, x] := by
  refine ⟨isBy_cons (by decide) (by decide) (isBy_one x0 x1), by simp, by simp, fun f rest acc => ?_⟩
  rw [List.length_cons, List.length_nil, List.cons_append, List.cons_append, List.nil_append, uq_92 hq f _ _ [c] 1 (by rw [escL, if_pos hx, hv])]
  rfl
theorem hexV_dig {d : Int} (h0 : 0 ≤ d) (h1 : d ≤ 9) : hexV (48 + d) = d := by
  unfold hexV
  rw [if_pos (by omega)]
  omega
theorem esc_dig {x : Int} (h0 : 48 ≤ x) (h1 : x ≤ 57) : escH x = false ∧ ¬ (x = 120 ∨ x = 88) ∧ ¬ (x = 117 ∨ x = 85) := by
  refine ⟨?_, by omega, by omega⟩
  unfold escH
  simp only [Bool.or_eq_false_iff, decide_eq_false_iff_not]
  omega
theorem digs3 {a b c : Int} {rest : List Int} (ha : hexV a < 8) (hb : hexV b < 8) (hc : hexV c < 8) : digs 8 3 (a :: b :: c :: rest) 0 = (((0 * 8 + hexV a) * 8 + hexV b) * 8 + hexV c, 3) := by
  rw [digs, if_pos ha, digs, if_pos hb, digs, if_pos hc, digs]
theorem digs2 {a b : Int} {rest : List Int} (ha : hexV a < 16) (hb : hexV b < 16) : digs 16 2 (a :: b :: rest) 0 = ((0 * 16 + hexV a) * 16 + hexV b, 2) := by
  rw [digs, if_pos ha, digs, if_pos hb, digs]
theorem sps_oct {q c : Int} (hq : q = 34 ∨ q = 39) (c0 : 0 ≤ c) (c1 : c ≤ 255) : Sps q [c] [92, 48 + c / 64, 48 + c / 8 % 8, 48 + c % 8] := by
  refine ⟨isBy_cons (by decide) (by decide) (isBy_cons (by omega) (by omega) (isBy_cons (by omega) (by omega) (isBy_one (by omega) (by omega)))), by simp, by simp, fun f rest acc => ?_⟩
  have e1 := hexV_dig (d := c / 64) (by omega) (by omega)
  have e2 := hexV_dig (d := c / 8 % 8) (by omega) (by omega)
  have e3 := hexV_dig (d := c % 8) (by omega) (by omega)
  obtain ⟨g1, g2, g3⟩ := esc_dig (x := 48 + c / 64) (by omega) (by omega)
  have hd := digs3 (a := 48 + c / 64) (b := 48 + c / 8 % 8) (c := 48 + c % 8) (rest := rest) (by omega) (by omega) (by omega)
  rw [e1, e2, e3, show ((0 * 8 + c / 64) * 8 + c / 8 % 8) * 8 + c % 8 = c by omega] at hd
  rw [List.length_cons, List.length_nil, List.cons_append, List.cons_append, List.cons_append, List.cons_append, List.nil_append]
  rw [uq_92 hq f _ _ [c] 3 (by rw [escL, if_neg (by rw [g1]; exact Bool.false_ne_true), if_neg g2, if_neg g3, hd, if_neg (by simp only; omega)]; simp only [Option.some.injEq, Prod.mk.injEq, List.cons.injEq, and_true]; omega)]
  rfl
theorem sps_hex {q c x a b : Int} (hq : q = 34 ∨ q = 39) (c0 : 0 ≤ c) (c1 : c ≤ 255) (hx : x = 120 ∨ x = 88) (a0 : 0 ≤ a) (a1 : a ≤ 255) (b0 : 0 ≤ b) (b1 : b ≤ 255) (ha : hexV a = c / 16) (hb : hexV b = c % 16) : Sps q [c] [92, x, a, b] := by
  refine ⟨isBy_cons (by decide) (by decide) (isBy_cons (by omega) (by omega) (isBy_cons a0 a1 (isBy_one b0 b1))), by simp, by simp, fun f rest acc => ?_⟩
  have hd := digs2 (a := a) (b := b) (rest := rest) (by omega) (by omega)
  rw [ha, hb, show (0 * 16 + c / 16) * 16 + c % 16 = c by omega] at hd
  have hE : ¬ escH x = true := by rcases hx with rfl | rfl <;> decide
  rw [List.length_cons, List.length_nil, List.cons_append, List.cons_append, List.cons_append, List.cons_append, List.nil_append]
  rw [uq_92 hq f _ _ [c] 3 (by rw [escL, if_neg hE, if_pos hx, hd, if_neg (show ¬ (2 : Nat) = 0 by decide)]; simp only [Option.some.injEq, Prod.mk.injEq, List.cons.injEq, and_true]; omega)]
  rfl
/-- A text in quotes, each byte of it spelt, is read as these bytes. -/
theorem uqF_sps {q : Int} (hq : q = 34 ∨ q = 39) {cs X : List Int} (h : Sps q cs X) : uqF (q :: X ++ [q]) = (cs, 0) := by
  have h1 := h.ge
  have hl : (q :: X ++ [q]).length = X.length + 2 := by simp
  have hd : (q :: X ++ [q]).drop 1 = X ++ [q] := rfl
  have hg : (q :: X ++ [q]).getD 0 0 = q := rfl
  unfold uqF
  rw [hl, hd, hg, if_neg (by omega), if_pos hq, show X.length + 2 = (X.length - cs.length + 2) + cs.length by omega, h.rd, show X.length - cs.length + 2 = (X.length - cs.length + 1) + 1 by omega, uq, if_pos rfl, if_pos rfl, List.nil_append]
theorem qt_sps {c : Int} (h0 : 0 ≤ c) (h1 : c ≤ 255) : Sps 34 [c] (qt c) := by
  unfold qt
  split
  · rename_i h; exact sps_esc (Or.inl rfl) (by decide) (by decide) (by decide) (by rw [h]; decide)
  · split
    · rename_i h; exact sps_esc (Or.inl rfl) (by decide) (by decide) (by decide) (by rw [h]; decide)
    · split
      · rename_i h; exact sps_esc (Or.inl rfl) (by decide) (by decide) (by decide) (by rw [h]; decide)
      · split
        · rename_i h; exact sps_esc (Or.inl rfl) (by decide) (by decide) (by decide) (by rw [h]; decide)
        · split
          · rename_i h; exact sps_esc (Or.inl rfl) (by decide) (by decide) (by decide) (by rw [h]; decide)
          · split
            · exact sps_oct (Or.inl rfl) h0 h1
            · exact sps_plain (by omega) h1 (by omega) (by omega)
theorem quoted_sps : ∀ {l : List Int}, isBy l = true → Sps 34 l (l.flatMap qt)
  | [], _ => Sps.nil 34
  | c :: u, h => by
    obtain ⟨h0, h1⟩ := isBy_mem h (show c ∈ c :: u by simp)
    have hu : isBy u = true := isBy_drop h 1
    rw [List.flatMap_cons]
    exact (qt_sps h0 h1).append (quoted_sps hu)
theorem bytesOf_append (a b : ByteArray) : bytesOf (a ++ b) = bytesOf a ++ bytesOf b := by
  simp [bytesOf, ByteArray.data_append]
theorem toList_of {s t : ByteArray} (h : bytesOf s = bytesOf t) : s.toList = t.toList := by rw [bytesOf_inj h]
theorem quote_f {l : List Int} (hB : isBy l = true) (hl : l.length ≤ 1099511627776) : text_Quote.f l = some (strOfNums (34 :: l.flatMap qt ++ [34])) := by
  unfold text_Quote.f
  rw [if_pos ⟨hl, hB⟩]
theorem quoted_bytes {l : List Int} (hB : isBy l = true) : bytesOf (strOfNums (34 :: l.flatMap qt ++ [34])) = 34 :: l.flatMap qt ++ [34] :=
  bytesOf_str (isBy_append (isBy_cons (by decide) (by decide) (quoted_sps hB).by_) (isBy_one (by decide) (by decide)))
theorem quoted_read {l : List Int} (hB : isBy l = true) : uqF (bytesOf (strOfNums (34 :: l.flatMap qt ++ [34]))) = (l, 0) := by
  rw [quoted_bytes hB]
  exact uqF_sps (Or.inl rfl) (quoted_sps hB)
end Go.Proofs.YtaklkcnohbbfoaaDoor.Pure
