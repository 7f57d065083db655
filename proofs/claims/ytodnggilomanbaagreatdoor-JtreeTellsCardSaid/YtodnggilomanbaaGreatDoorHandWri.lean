/-
  jtree: written: what it comes to, and the walk.
-/
import Derived.Test.YtodnggilomanbaaGreatDoorAp
import Derived.Test.YtodnggilomanbaaGreatDoorHandStep
import Derived.Test.YtodnggilomanbaaGreatDoorHandMay
import Derived.Test.YtodnggilomanbaaGreatDoorHandQuote
import Derived.Test.YtodnggilomanbaaGreatDoorHandParts
import Derived.Test.YtodnggilomanbaaGreatDoorShelf
import Derived.Lib.Join
set_option maxRecDepth 100000
set_option maxHeartbeats 8000000
namespace Go.Proofs.YtodnggilomanbaaGreatDoor.Hand
open Go.RowKit Go.Lib Go.Maps Go.Proofs.YtodnggilomanbaaGreatDoorW.PrintWords Go.Proofs.YtodnggilomanbaaGreatDoorW.PrintLast Go.Proofs.YtodnggilomanbaaGreatDoorW.PrintMore Go.Proofs.YtodnggilomanbaaGreatDoor.PAll
set_option linter.unusedVariables false
set_option linter.unusedSimpArgs false

def joinB (xs : List ByteArray) : ByteArray := ⟨(Lib.join (xs.map (·.data.toList)) [44]).toArray⟩
def qk (k t : ByteArray) : ByteArray := quoF k ++ (⟨#[58]⟩ : ByteArray) ++ t
def wordB (k : Int) : ByteArray := if k = 1 then ⟨#[110, 117, 108, 108]⟩ else if k = 2 then ⟨#[102, 97, 108, 115, 101]⟩ else if k = 3 then ⟨#[116, 114, 117, 101]⟩ else ⟨#[]⟩
mutual
def wriF : S28 → ByteArray
  | ⟨k, s, ks, L⟩ => if k = 4 then s else if k = 5 then quoF s else if k = 6 then (⟨#[91]⟩ : ByteArray) ++ joinB (wriL L) ++ (⟨#[93]⟩ : ByteArray) else if k = 7 then (⟨#[123]⟩ : ByteArray) ++ joinB (List.zipWith qk ks (wriL L)) ++ (⟨#[125]⟩ : ByteArray) else wordB k
def wriL : List S28 → List ByteArray
  | [] => []
  | x :: l => wriF x :: wriL l
end
theorem wriL_map : ∀ l : List S28, wriL l = l.map wriF
  | [] => by rw [wriL]; rfl
  | x :: l => by rw [wriL, wriL_map l]; rfl
def partsW (a : S28) : List ByteArray := if a.f0 = 7 then List.zipWith qk a.f2 (wriL a.f3) else wriL a.f3
theorem wriF_eq (a : S28) : wriF a = if a.f0 = 4 then a.f1 else if a.f0 = 5 then quoF a.f1 else if a.f0 = 6 then (⟨#[91]⟩ : ByteArray) ++ joinB (wriL a.f3) ++ (⟨#[93]⟩ : ByteArray) else if a.f0 = 7 then (⟨#[123]⟩ : ByteArray) ++ joinB (List.zipWith qk a.f2 (wriL a.f3)) ++ (⟨#[125]⟩ : ByteArray) else wordB a.f0 := by
  cases a; rw [wriF]
theorem join_cons (y z : List UInt8) (l : List (List UInt8)) (sep : List UInt8) : Lib.join (y :: z :: l) sep = y ++ (sep ++ Lib.join (z :: l) sep) := by
  simp [Lib.join, List.intercalate, List.intersperse]
theorem join_one (y : List UInt8) (sep : List UInt8) : Lib.join [y] sep = y := by simp [Lib.join, List.intercalate, List.intersperse]
theorem join_mem (sep : List UInt8) : ∀ (xs : List (List UInt8)) (x : List UInt8), x ∈ xs → x.length ≤ (Lib.join xs sep).length
 | [], x, h => by cases h
 | [y], x, h => by
  rw [join_one]
  rcases List.mem_cons.1 h with rfl | h
  ·exact Nat.le_refl _
  ·cases h
 | y :: z :: l, x, h => by
  rw [join_cons, List.length_append, List.length_append]
  rcases List.mem_cons.1 h with rfl | h
  ·omega
  ·have := join_mem sep (z :: l) x h
   omega
theorem joinB_mem {xs : List ByteArray} {x : ByteArray} (h : x ∈ xs) : x.size ≤ (joinB xs).size := by
  have := join_mem [44] (xs.map (·.data.toList)) x.data.toList (List.mem_map.2 ⟨x, h, rfl⟩)
  rw [data_length] at this
  show _ ≤ (List.toArray _).size
  simpa using this
def WriAt (a : S28) : Prop := (∃ d, mayF a d = true) → okM a = true → (wriF a).size ≤ 1099511627776 → ∀ (A2 : Option Addr) (c2 : Nat) (A3 : Option Addr) (c3 : Nat) (w : World),
  Kd.C Kd.string w A2 a.f2.length a.f2 → a.f2.length ≤ c2 → Kd.C k28 w A3 a.f3.length a.f3 → a.f3.length ≤ c3 →
  Calls Tryz.prog 40 #[nodeV a A2 c2 A3 c3] w fun e w' => e = .returned (.string (wriF a)) ∧ Below w.heap.size w w'
theorem rowS (W : World) (base : Nat) (x : ByteArray) (h : base ≤ W.heap.size) : Kd.R Kd.string 9 (W.alloc (.cells #[.string x] 9)) base (fun k => k = W.heap.size) (.slice (some ⟨W.heap.size, 0, none⟩) 1 1) [x] :=
  Kd.R_of_own (enc := Value.string) (h1 := fun _ => rfl) (World.ownsRow_lit (base := base) (e := 9) (size := 1) W #[.string x] 1 (by omega) (by decide) (by rfl)) (fun k hk => by simp [Value.ownBlock] at hk; exact hk.symm)
theorem ff (A : Option Addr) (c : Nat) (P : List ByteArray) (w : World) (hC : Kd.C Kd.string w A P.length P) (hc : P.length ≤ c) (hl : P.length ≤ 1099511627776) (hs : (joinB P).size ≤ 1099511627776) :
 Calls Tryz.prog 70 #[.slice A P.length c, .string ⟨#[44]⟩] w fun e w' => e = .returned (.string (joinB P)) ∧ Below w.heap.size w w' := by
 rcases P with _ | ⟨y, l⟩
 ·refine (Tryz.strings_Join_none A c ⟨#[44]⟩ w).mono ?_
  rintro e w' ⟨rfl, rfl⟩
  exact ⟨rfl, Below.refl _ _⟩
 ·obtain ⟨ad, rfl, hcc⟩ := hC.2.2 (by simp)
  have hcells := strs_of_C hC ad rfl
  have h0 := hcells 0 (.string y) (by simp)
  obtain ⟨b, off, sp⟩ := ad
  have hsp : sp = none := by
   cases sp with
   | none => rfl
   | some q => simp [World.cell?, Addr.add] at h0; split at h0 <;> simp at h0
  subst hsp
  have hlt := World.block_lt_of_cell? w _ h0
  have hjl : (Lib.join ((y :: l).map (·.data.toList)) (⟨#[44]⟩ : ByteArray).data.toList).length ≤ 140737488355328 := by
   have h1 : (joinB (y :: l)).size = (Lib.join ((y :: l).map (·.data.toList)) [44]).length := by show (List.toArray _).size = _; simp
   have h2 : (⟨#[44]⟩ : ByteArray).data.toList = [44] := rfl
   rw [h2, ← h1]
   omega
  exact Tryz.strings_Join b off c (y :: l) ⟨#[44]⟩ w (fun j x hj => by
   have hj2 := hcells j (.string x) (by rw [List.getElem?_map, hj]; rfl)
   have ha : (⟨b, off, none⟩ : Addr).add j = ⟨b, off + j, none⟩ := by unfold Addr.add; split <;> simp_all
   rwa [ha] at hj2) (by have : ((⟨b, off, none⟩ : Addr).add 0).block = b := (by unfold Addr.add; split <;> simp_all); rw [this] at hlt; exact hlt) (by omega) hc hjl
theorem mayL_mem {d : Int} : ∀ {l : List S28}, mayL l d = true → ∀ x ∈ l, mayF x d = true
 | [], _, x, hx => by cases hx
 | y :: l, h, x, hx => by
  rw [mayL, Bool.and_eq_true] at h
  rcases List.mem_cons.1 hx with rfl | hx
  ·exact h.1
  ·exact mayL_mem h.2 x hx
theorem isF_kind {k : Int} {s : ByteArray} {ks : List ByteArray} {n : Nat} (h : isF k s ks n = true) : 1 ≤ k ∧ k ≤ 7 ∧ (k ≤ 5 → n = 0) ∧ (k = 7 → ks.length = n) := by
 unfold isF at h
 split at h
 ·simp only [Bool.and_eq_true, decide_eq_true_eq] at h
  omega
 ·split at h
  ·simp only [Bool.and_eq_true, decide_eq_true_eq] at h
   omega
  ·split at h
   ·simp only [Bool.and_eq_true, decide_eq_true_eq] at h
    omega
   ·split at h
    ·omega
    ·split at h
     ·simp only [Bool.and_eq_true, decide_eq_true_eq] at h
      omega
     ·cases h
theorem size_app (a b : ByteArray) : (a ++ b).size = a.size + b.size := ByteArray.size_append
theorem wri_step (a : S28) (hW : ∀ x ∈ a.f3, WriAt x) : WriAt a := by
 rintro ⟨d, hmay⟩ hok hsz A2 c2 A3 c3 w h2 l2 h3 l3
 obtain ⟨ok1, ok2, ok3, ok4, ok5⟩ := okM_at hok
 rw [mayF_eq, Bool.and_eq_true, Bool.and_eq_true] at hmay
 obtain ⟨⟨his, _⟩, hml⟩ := hmay
 obtain ⟨hk1, hk7, hk5, hkk⟩ := isF_kind his
 have hpl : (partsW a).length = a.f3.length := by
  unfold partsW
  split
  ·rename_i h7
   rw [List.length_zipWith, wriL_map, List.length_map, hkk h7, Nat.min_self]
  ·rw [wriL_map, List.length_map]
 have hpz : ∀ p ∈ partsW a, p.size ≤ 1099511627776 := by
  intro p hp
  rw [wriF_eq] at hsz
  unfold partsW at hp
  by_cases h7 : a.f0 = 7
  case pos =>
   rw [if_pos h7] at hp
   rw [if_neg (by omega), if_neg (by omega), if_neg (by omega), if_pos h7, size_app, size_app] at hsz
   have := joinB_mem hp
   omega
  rw [if_neg h7] at hp
  by_cases h6 : a.f0 = 6
  case neg =>
   have h0 : a.f3 = [] := List.eq_nil_of_length_eq_zero (hk5 (by omega))
   rw [h0, wriL] at hp
   cases hp
  rw [if_neg (by omega), if_neg (by omega), if_pos h6, size_app, size_app] at hsz
  have := joinB_mem hp
  omega
 have HOK := hid (And.intro ok2 (And.intro hW (And.intro hml (And.intro hok (And.intro ok4 ok5)))))
 have HR := hid (And.intro (And.intro h2 l2) (And.intro h3 l3))
 have HP := hid (And.intro hpl hpz)
 have HK := hid (And.intro hk1 (And.intro hk7 (And.intro hk5 hkk)))
 have HSZ := hid hsz
 clear his hml hW hok ok1 ok2 ok3 ok4 ok5 h2 l2 h3 l3 hpl hpz hk1 hk7 hk5 hkk hsz
 go_enter Tryz.func40, Tryz.ntmps40
 go_upto_region 2 with (first
  | ((with_reducible refine gate_dst (N := 1) rfl ?_); refine box_event ?hg (N := 1) ?hd (cs := #[.int .i64 a.f0, .string a.f1, .slice A2 a.f2.length c2, .slice A3 a.f3.length c3]) (t := 28) ?hr ?_; (case hd => rfl); (case hg => rfl); (case hr => exact p9z); intro q xq wq bq hbq; have GQ := hid xq; have BQ := hid bq; have HQ := hid hbq; clear xq bq hbq)
  | ((with_reducible refine gate_dst (N := 3) rfl ?_); refine box_event ?hg (N := 3) ?hd (cs := #[.string ⟨#[]⟩, .string ⟨#[]⟩, .string ⟨#[]⟩, .string ⟨#[]⟩]) (t := 110) ?hr ?_; (case hd => rfl); (case hg => rfl); (case hr => exact p9z); intro b xb wb bb hbb; have GB := hid xb; have BB := hid bb; have HBB := hid hbb; have hbc0 := cell_of (i := 0) bb rfl; have hbc1 := cell_of (i := 1) bb rfl; have hbc2 := cell_of (i := 2) bb rfl; have hbc3 := cell_of (i := 3) bb rfl; have hbf0 := blk_frozen bb 0; have hbf1 := blk_frozen bb 1; have hbf2 := blk_frozen bb 2; have hbf3 := blk_frozen bb 3; clear xb bb hbb))
 have nqb : q ≠ b := by have := blk_lt BQ.out; rw [GB.out]; omega
 have gb : w.heap.size ≤ b := by rw [GB.out]; exact HQ.out.size
 have hb2 : ((((wb.setCell ⟨b, 0, none⟩ (.string ⟨#[]⟩)).setCell ⟨b, 1, none⟩ (.string ⟨#[110, 117, 108, 108]⟩)).setCell ⟨b, 2, none⟩ (.string ⟨#[102, 97, 108, 115, 101]⟩)).setCell ⟨b, 3, none⟩ (.string ⟨#[116, 114, 117, 101]⟩)).heap[b]? = some (.cells #[.string ⟨#[]⟩, .string ⟨#[110, 117, 108, 108]⟩, .string ⟨#[102, 97, 108, 115, 101]⟩, .string ⟨#[116, 114, 117, 101]⟩] 110 (0, 0)) :=
  blk_put (cs := #[.string ⟨#[]⟩, .string ⟨#[110, 117, 108, 108]⟩, .string ⟨#[102, 97, 108, 115, 101]⟩, .string ⟨#[]⟩]) (blk_put (cs := #[.string ⟨#[]⟩, .string ⟨#[110, 117, 108, 108]⟩, .string ⟨#[]⟩, .string ⟨#[]⟩]) (blk_put (cs := #[.string ⟨#[]⟩, .string ⟨#[]⟩, .string ⟨#[]⟩, .string ⟨#[]⟩]) (blk_put (cs := #[.string ⟨#[]⟩, .string ⟨#[]⟩, .string ⟨#[]⟩, .string ⟨#[]⟩]) BB.out 0 _ rfl) 1 _ rfl) 2 _ rfl) 3 _ rfl
 have hq2 := far4 (blk_below BQ.out HBB.out) nqb (.string ⟨#[]⟩) (.string ⟨#[110, 117, 108, 108]⟩) (.string ⟨#[102, 97, 108, 115, 101]⟩) (.string ⟨#[116, 114, 117, 101]⟩)
 have hB2 := below4 (below_step HQ.out HBB.out) gb (.string ⟨#[]⟩) (.string ⟨#[110, 117, 108, 108]⟩) (.string ⟨#[102, 97, 108, 115, 101]⟩) (.string ⟨#[116, 114, 117, 101]⟩)
 have HH2 := hid (And.intro hB2 (And.intro hq2 hb2))
 clear hbc0 hbc1 hbc2 hbc3 hbf0 hbf1 hbf2 hbf3 BQ GQ HQ BB GB HBB hb2 hq2 hB2
 revert HH2
 generalize World.setCell (World.setCell _ _ _) _ _ = W2
 intro HH2
 have hz3 := cell_of (i := 3) HH2.out.2.1 rfl
 obtain ⟨P, hP⟩ : ∃ P, partsW a = P := ⟨_, rfl⟩
 rw [hP] at HP
 have HPE := hid hP
 clear hP
 go_wp2
 go_loopw [4, 12] (fun v4 v12 wr => ∃ i : Nat, v12 = .int .i64 i ∧ i ≤ a.f3.length ∧ Kd.R Kd.string 9 wr w.heap.size (fun k => k ≠ q ∧ k ≠ b) v4 (P.take i) ∧ Hid (Below w.heap.size w wr ∧ wr.heap[q]? = some (.cells #[.int .i64 a.f0, .string a.f1, .slice A2 a.f2.length c2, .slice A3 a.f3.length c3] 28 (0, 0)) ∧ wr.heap[b]? = some (.cells #[.string ⟨#[]⟩, .string ⟨#[110, 117, 108, 108]⟩, .string ⟨#[102, 97, 108, 115, 101]⟩, .string ⟨#[116, 114, 117, 101]⟩] 110 (0, 0)))) (fun _ v _ => a.f3.length - (intOf v).toNat)
 case atStart => exact ⟨0, rfl, Nat.zero_le _, by rw [List.take_zero]; exact Kd.R_nil _ _ _ _ _, HH2⟩
 case round =>
  obtain ⟨i, rfl, hi, hrow, HH⟩ := hrel
  clear hz3
  rcases Nat.lt_or_ge i a.f3.length with hlt | hge
  ·have hd0 : decide ((i : Int) < (a.f3.length : Int)) = true := decide_eq_true (by omega)
   have hc1 : ((i : Int) < (a.f3.length : Int)) = True := eq_true (by omega)
   have hc0 : (0 ≤ (i : Int)) = True := eq_true (by omega)
   obtain ⟨ad, X2, cX2, X3, cX3, eA, xA0, xA1, xA2, xA3, lA2, iA2, lA3, iA3⟩ := at_T28 HR.out.2.1 i (by omega) (by omega)
   cases eA
   rw [Int.toNat_natCast] at xA0 xA1 xA2 xA3
   obtain ⟨x, hx⟩ : ∃ x, rd_T28 a.f3 i = x := ⟨_, rfl⟩
   rw [hx] at xA0 xA1 xA2 xA3 lA2 iA2 lA3 iA3
   replace xA0 := (HH.out.1.cell (World.block_lt_of_cell? w _ xA0)).trans xA0
   replace xA1 := (HH.out.1.cell (World.block_lt_of_cell? w _ xA1)).trans xA1
   replace xA2 := (HH.out.1.cell (World.block_lt_of_cell? w _ xA2)).trans xA2
   replace xA3 := (HH.out.1.cell (World.block_lt_of_cell? w _ xA3)).trans xA3
   have hxe : a.f3[i] = x := by rw [← hx]; simp [rd_T28, List.getD_eq_getElem?_getD, List.getElem?_eq_getElem hlt]
   have hin : x ∈ a.f3 := by rw [← hxe]; exact List.getElem_mem hlt
   obtain ⟨Ao, co, eo⟩ := Kd.R_slice hrow
   have hpi : i < P.length := by rw [HP.out.1]; exact hlt
   have hti : (P.take i).length = i := by rw [List.length_take]; omega
   rw [hti] at eo
   subst eo
   have htk : P.take (i + 1) = P.take i ++ [P[i]] := by rw [List.take_add_one, List.getElem?_eq_getElem hpi]; rfl
   obtain ⟨T, hT⟩ : ∃ T, P.take i = T := ⟨_, rfl⟩
   rw [hT] at htk hrow hti
   have hL : (T.length + 1) * 16 ≤ 140737488355328 := by have := HOK.out.2.2.2.2.1; omega
   have HTK := hid htk
   clear htk hT
   have HIX := hid (And.intro iA2 (And.intro lA2 (And.intro iA3 lA3)))
   have HX := hid (And.intro hin hxe)
   clear hx iA2 lA2 iA3 lA3 hin hxe
   have hne : ∀ k, (Value.slice Ao i co).ownBlock = some k → k ≠ q ∧ k ≠ b := hrow.1
   go_upto_region 6 with (((with_reducible refine gate_dst (N := 6) rfl ?_); refine box_event ?hg (N := 6) ?hd (cs := zcells) (t := 28) ?hr ?_; (case hd => rfl); (case hg => rfl); (case hr => exact p9z); intro g8 hg w8 hbox hbw; have BK8 := hid hbox; have HB8 := hid hbw; have GE8 := hid hg; have hcz0 := cell_of (i := 0) hbox rfl; have hcz1 := cell_of (i := 1) hbox rfl; have hcz2 := cell_of (i := 2) hbox rfl; have hcz3 := cell_of (i := 3) hbox rfl; have hfz0 := blk_frozen hbox 0; have hfz1 := blk_frozen hbox 1; have hfz2 := blk_frozen hbox 2; have hfz3 := blk_frozen hbox 3; clear hbox hbw hg))
   have lq := blk_lt HH.out.2.1
   have lb := blk_lt HH.out.2.2
   have nq8 : q ≠ g8 := by rw [GE8.out]; omega
   have nb8 : b ≠ g8 := by rw [GE8.out]; omega
   have ge8 : w.heap.size ≤ g8 := by rw [GE8.out]; exact HH.out.1.size
   have k8 := stored4 BK8.out (.int .i64 x.f0) (.string x.f1) (.slice X2 x.f2.length cX2) (.slice X3 x.f3.length cX3)
   have q8 := far4 (blk_below HH.out.2.1 HB8.out) nq8 (.int .i64 x.f0) (.string x.f1) (.slice X2 x.f2.length cX2) (.slice X3 x.f3.length cX3)
   have b8 := far4 (blk_below HH.out.2.2 HB8.out) nb8 (.int .i64 x.f0) (.string x.f1) (.slice X2 x.f2.length cX2) (.slice X3 x.f3.length cX3)
   have hb8 := below4 (below_step HH.out.1 HB8.out) ge8 (.int .i64 x.f0) (.string x.f1) (.slice X2 x.f2.length cX2) (.slice X3 x.f3.length cX3)
   have r8 := Kd.R_mono (Kd.R_bound hrow) (ok' := fun k => (k ≠ q ∧ k ≠ b) ∧ k ≠ g8) (fun k hk => ⟨hk.1, by have := hk.2.2.1; rw [GE8.out]; omega⟩)
   have r8 := Kd.R_far (p := ⟨g8, 3, none⟩) (Kd.R_far (p := ⟨g8, 2, none⟩) (Kd.R_far (p := ⟨g8, 1, none⟩) (Kd.R_far (p := ⟨g8, 0, none⟩) (Kd.R_below r8 HB8.out) (fun _ hk => hk.2) (.int .i64 x.f0)) (fun _ hk => hk.2) (.string x.f1)) (fun _ hk => hk.2) (.slice X2 x.f2.length cX2)) (fun _ hk => hk.2) (.slice X3 x.f3.length cX3)
   have H8 := hid (And.intro (Kd.R_mono r8 (fun _ hk => hk.1)) (And.intro hb8 (And.intro q8 (And.intro b8 k8))))
   clear lq lb nq8 nb8 ge8 k8 q8 b8 hb8 r8 hcz0 hcz1 hcz2 hcz3 hfz0 hfz1 hfz2 hfz3 BK8 HB8 GE8 xA0 xA1 xA2 xA3 HH hrow
   revert H8
   generalize World.setCell (World.setCell _ _ _) _ _ = W8
   intro H8
   obtain ⟨ya0, ya1, ya2, ya3, -⟩ := cells4 H8.out.2.2.2.2
   have hfr : ∀ (W : World) (o : Obj), W8.heap.size ≤ W.heap.size → ∀ k, (W.alloc o).heap.size ≤ k → k ≠ q ∧ k ≠ b := fun W o hs k hk => by
    have h1 := blk_lt H8.out.2.2.1
    have h2 := blk_lt H8.out.2.2.2.1
    simp at hk
    constructor <;> omega
   have hlen0 := HX.out.1
   have hmx := mayL_mem HOK.out.2.2.1 x HX.out.1
   have hokx := okML_mem HOK.out.2.2.2.2.2 x HX.out.1
   have hfin : ∀ (o : Obj) (W wz : World), W.heap[q]? = some (.cells #[.int .i64 a.f0, .string a.f1, .slice A2 a.f2.length c2, .slice (some ad) a.f3.length c3] 28 (0, 0)) → W.heap[b]? = some (.cells #[.string ⟨#[]⟩, .string ⟨#[110, 117, 108, 108]⟩, .string ⟨#[102, 97, 108, 115, 101]⟩, .string ⟨#[116, 114, 117, 101]⟩] 110 (0, 0)) → (W.alloc o).grownBy wz (Value.slice Ao i co).ownBlock → Below w.heap.size w wz → Hid (Below w.heap.size w wz ∧ wz.heap[q]? = some (.cells #[.int .i64 a.f0, .string a.f1, .slice A2 a.f2.length c2, .slice (some ad) a.f3.length c3] 28 (0, 0)) ∧ wz.heap[b]? = some (.cells #[.string ⟨#[]⟩, .string ⟨#[110, 117, 108, 108]⟩, .string ⟨#[102, 97, 108, 115, 101]⟩, .string ⟨#[116, 114, 117, 101]⟩] 110 (0, 0))) := fun o W wz hq hbk hg hb =>
    hid ⟨hb, (hg.block q (by have := blk_lt hq; simp; omega) (fun e => (hne q e.symm).1 rfl)).trans (blk_alloc hq o), (hg.block b (by have := blk_lt hbk; simp; omega) (fun e => (hne b e.symm).2 rfl)).trans (blk_alloc hbk o)⟩
   by_cases k7 : a.f0 = 7
   case neg =>
    have q7 : (a.f0 == 7) = false := beq_eq_false_iff_ne.mpr k7
    have hPI : P[i] = wriF x := by
     have h1 : P[i]? = some (wriF x) := by
      rw [← HPE.out, partsW, if_neg k7, wriL_map]
      rw [List.getElem?_map, List.getElem?_eq_getElem hlt, HX.out.2]
      rfl
     rw [List.getElem?_eq_getElem hpi] at h1
     exact Option.some.inj h1
    have hps := HP.out.2 P[i] (List.getElem_mem hpi)
    rw [hPI] at hps
    have hcw := HOK.out.2.1 x HX.out.1 ⟨d + 1, hmx⟩ hokx hps X2 cX2 X3 cX3 W8 (Kd.C_below HIX.out.1 H8.out.2.1) HIX.out.2.1 (Kd.C_below HIX.out.2.2.1 H8.out.2.1) HIX.out.2.2.2
    obtain ⟨X, hX⟩ : ∃ X, wriF x = X := ⟨_, rfl⟩
    rw [hX] at hcw hPI
    have HPI := hid hPI
    clear hPI hps hX hmx hokx hlen0 k7
    go_wp2_with (first
     | (go_at_call 40; refine hcw.mono ?_; rintro e w9 ⟨rfl, hb9⟩; have hq9 := blk_below H8.out.2.2.1 hb9; have hq0 := cell_of (i := 0) hq9 rfl; have H9 := hid (And.intro (Kd.R_below H8.out.1 hb9) (And.intro (below_step H8.out.2.1 hb9) (And.intro hq9 (And.intro (blk_below H8.out.2.2.2.1 hb9) hb9.size)))); clear hb9 hq9)
     | ((with_reducible refine gate_builtin (b := .append) (xs := #[.tmp 31, .tmp 33]) rfl ?_); at_builtin; refine Kd.R_append_rows Kd.string (w0 := w) w.heap.size rfl (.tmp 31) (.tmp 33) 22 9 (.string ⟨#[]⟩) 16 rfl Tryz.underlying22 info9 rfl (by decide) (by omega) (.slice Ao i co) T [X] _ _ _ (fun k => k ≠ q ∧ k ≠ b) (fun _ => False) rfl rfl ?aO ?aR (fun _ _ h => h) (fun _ h => h.elim) ?aF ?aB ?aS ?aL ?_; (case aO => exact Kd.R_alloc H9.out.1 _); (case aR => exact (Kd.R_reads' (rowS w9 0 (X) (Nat.zero_le _))).2.2); (case aF => exact hfr w9 _ H9.out.2.2.2.2); (case aB => exact below_alloc H9.out.2.1 _); (case aS => exact (below_alloc H9.out.2.1 _).size); (case aL => exact hL); intro v9 wz ho hb hg hat))
    exact ⟨⟨i + 1, p91z, hlt, by rw [HTK.out, HPI.out]; exact ho, hfin _ w9 wz H9.out.2.2.1 H9.out.2.2.2.1 hg hb⟩, p93z⟩
   have q7 : (a.f0 == 7) = true := beq_iff_eq.mpr k7
   have hkl : i < a.f2.length := by rw [HK.out.2.2.2 k7]; exact hlt
   have hkl0 : 0 < a.f2.length := by omega
   obtain ⟨ak, eak, _⟩ := HR.out.1.1.2.2 hkl0
   cases eak
   have hkey := Kd.foot_string HR.out.1.1 (i : Int) (by omega) (by omega)
   obtain ⟨k, hk⟩ : ∃ k, rdOf ByteArray.empty a.f2 (i : Int) = k := ⟨_, rfl⟩
   rw [hk, Int.toNat_natCast] at hkey
   have hke : a.f2[i] = k := by rw [← hk]; simp [rdOf, List.getD_eq_getElem?_getD, List.getElem?_eq_getElem hkl]
   have hks : k.size ≤ 1073741824 := HOK.out.1 k (by rw [← hke]; exact List.getElem_mem hkl)
   have hPI : P[i] = qk k (wriF x) := by
    have h1 : P[i]? = some (qk k (wriF x)) := by
     rw [← HPE.out, partsW, if_pos k7, wriL_map]
     rw [List.getElem?_zipWith, List.getElem?_map, List.getElem?_eq_getElem hkl, List.getElem?_eq_getElem hlt, hke, HX.out.2]
     rfl
    rw [List.getElem?_eq_getElem hpi] at h1
    exact Option.some.inj h1
   have hps := HP.out.2 P[i] (List.getElem_mem hpi)
   rw [hPI] at hps
   have hps2 := hps
   unfold qk at hps2
   rw [size_app, size_app] at hps2
   have e1 : (⟨#[58]⟩ : ByteArray).size = 1 := rfl
   rw [e1] at hps2
   have hcw := HOK.out.2.1 x HX.out.1 ⟨d + 1, hmx⟩ hokx (by omega) X2 cX2 X3 cX3 W8 (Kd.C_below HIX.out.1 H8.out.2.1) HIX.out.2.1 (Kd.C_below HIX.out.2.2.1 H8.out.2.1) HIX.out.2.2.2
   obtain ⟨Q, hQ⟩ : ∃ Q, quoF k = Q := ⟨_, rfl⟩
   obtain ⟨X, hX⟩ : ∃ X, wriF x = X := ⟨_, rfl⟩
   have hqc := fun W => ef k W hks
   have hqke : qk k (wriF x) = Q ++ (⟨#[58]⟩ : ByteArray) ++ X := by rw [qk, hQ, hX]
   rw [hX] at hcw hps2
   rw [hQ] at hqc hps2
   have sz1 : (9223372036854775807 < Q.size + 1) = False := eq_false (by omega)
   have sz2 : (9223372036854775807 < Q.size + 1 + X.size) = False := eq_false (by omega)
   have hd2 : decide ((i : Int) < (a.f2.length : Int)) = true := decide_eq_true (by omega)
   have hc2 : ((i : Int) < (a.f2.length : Int)) = True := eq_true (by omega)
   have HPI := hid (hPI.trans hqke)
   clear hk hke hPI hps hps2 hQ hX hqke hks hkl0 hmx hokx hlen0 k7
   go_wp2_with (first
    | (go_at_call 40; refine hcw.mono ?_; rintro e w9 ⟨rfl, hb9⟩; have hq9 := blk_below H8.out.2.2.1 hb9; have hq0 := cell_of (i := 0) hq9 rfl; have hB9 := hid (below_step H8.out.2.1 hb9); have H9a := hid (And.intro (Kd.R_below H8.out.1 hb9) (And.intro hq9 (And.intro (blk_below H8.out.2.2.2.1 hb9) hb9.size))); have hqq2 := cell_of (i := 2) hq9 rfl; have hkey9 := (hB9.out.cell (World.block_lt_of_cell? w _ hkey)).trans hkey; clear hb9 hq9 hkey)
    | (go_at_call 69; refine (hqc _).mono ?_; rintro e w10 ⟨rfl, hb10⟩; have H9 := hid (And.intro (Kd.R_below H9a.out.1 hb10) (And.intro (below_step hB9.out hb10) (And.intro (blk_below H9a.out.2.1 hb10) (And.intro (blk_below H9a.out.2.2.1 hb10) (Nat.le_trans H9a.out.2.2.2 hb10.size))))); clear hb10)
    | ((with_reducible refine gate_builtin (b := .append) (xs := #[.tmp 31, .tmp 33]) rfl ?_); at_builtin; refine Kd.R_append_rows Kd.string (w0 := w) w.heap.size rfl (.tmp 31) (.tmp 33) 22 9 (.string ⟨#[]⟩) 16 rfl Tryz.underlying22 info9 rfl (by decide) (by omega) (.slice Ao i co) T [Q ++ (⟨#[58]⟩ : ByteArray) ++ X] _ _ _ (fun k => k ≠ q ∧ k ≠ b) (fun _ => False) rfl rfl ?aO ?aR (fun _ _ h => h) (fun _ h => h.elim) ?aF ?aB ?aS ?aL ?_; (case aO => exact Kd.R_alloc H9.out.1 _); (case aR => exact (Kd.R_reads' (rowS w10 0 (Q ++ (⟨#[58]⟩ : ByteArray) ++ X) (Nat.zero_le _))).2.2); (case aF => exact hfr w10 _ H9.out.2.2.2.2); (case aB => exact below_alloc H9.out.2.1 _); (case aS => exact (below_alloc H9.out.2.1 _).size); (case aL => exact hL); intro v9 wz ho hb hg hat))
   exact ⟨⟨i + 1, p91z, hlt, by rw [HTK.out, HPI.out]; exact ho, hfin _ w10 wz H9.out.2.2.1 H9.out.2.2.2.1 hg hb⟩, p93z⟩
  ·have hd0 : decide ((i : Int) < (a.f3.length : Int)) = false := decide_eq_false (by omega)
   have hil : i = a.f3.length := by omega
   have htP : P.take i = P := List.take_of_length_le (by rw [HP.out.1]; omega)
   obtain ⟨Ao, co, eo⟩ := Kd.R_slice hrow
   rw [htP] at eo hrow
   subst eo
   have hrd := Kd.R_reads' hrow
   have hz0 := cell_of (i := 0) HH.out.2.1 rfl
   have hz1 := cell_of (i := 1) HH.out.2.1 rfl
   have hw1 := cell_of (i := 1) HH.out.2.2 rfl
   have hw2 := cell_of (i := 2) HH.out.2.2 rfl
   have hw3 := cell_of (i := 3) HH.out.2.2 rfl
   have hwe := wriF_eq a
   have hsz := HSZ.out
   obtain ⟨R, hR⟩ : ∃ R, wriF a = R := ⟨_, rfl⟩
   rw [hR] at hwe hsz
   have hPl : P.length ≤ 1099511627776 := by rw [HP.out.1]; exact HOK.out.2.2.2.2.1
   have HRE := hid hR
   clear hR hil htP hrow
   by_cases k4 : a.f0 = 4
   case pos =>
    rw [if_pos k4] at hwe
    have q4 : (a.f0 == 4) = true := beq_iff_eq.mpr k4
    have HWE := hid hwe
    clear hwe k4
    go_wp2
    go_ret
    exact ⟨by rw [HRE.out, HWE.out]; rfl, HH.out.1⟩
   rw [if_neg k4] at hwe
   have q4 : (a.f0 == 4) = false := beq_eq_false_iff_ne.mpr k4
   by_cases k5 : a.f0 = 5
   case pos =>
    rw [if_pos k5] at hwe
    have q5 : (a.f0 == 5) = true := beq_iff_eq.mpr k5
    have HWE := hid hwe
    have hqc := ef a.f1 wr (okM_at HOK.out.2.2.2.1).1
    clear hwe k4 k5
    go_wp2_with (go_at_call 69; refine hqc.mono ?_; rintro e w9 ⟨rfl, hb9⟩)
    go_ret
    exact ⟨by rw [HRE.out, HWE.out]; rfl, below_step HH.out.1 hb9⟩
   rw [if_neg k5] at hwe
   have q5 : (a.f0 == 5) = false := beq_eq_false_iff_ne.mpr k5
   by_cases k6 : a.f0 = 6
   case pos =>
    rw [if_pos k6] at hwe
    have q6 : (a.f0 == 6) = true := beq_iff_eq.mpr k6
    have hPE : wriL a.f3 = P := by rw [← HPE.out, partsW, if_neg (by omega)]
    rw [hPE] at hwe
    have hsz2 := hsz
    rw [hwe, size_app, size_app] at hsz2
    have e1 : (⟨#[91]⟩ : ByteArray).size = 1 := rfl
    have e2 : (⟨#[93]⟩ : ByteArray).size = 1 := rfl
    rw [e1, e2] at hsz2
    have hjc := ff Ao co P wr hrd.2.2 hrd.2.1 hPl (by omega)
    obtain ⟨J, hJ⟩ : ∃ J, joinB P = J := ⟨_, rfl⟩
    rw [hJ] at hwe hjc hsz2
    have sz1 : (9223372036854775807 < 1 + J.size) = False := eq_false (by omega)
    have sz2 : (9223372036854775807 < 1 + J.size + 1) = False := eq_false (by omega)
    have HWE := hid hwe
    clear hwe k4 k5 k6 hJ hsz hsz2 hPE
    go_wp2_with (go_at_call 70; refine hjc.mono ?_; rintro e w9 ⟨rfl, hb9⟩)
    go_ret
    exact ⟨by rw [HRE.out, HWE.out]; rfl, below_step HH.out.1 hb9⟩
   rw [if_neg k6] at hwe
   have q6 : (a.f0 == 6) = false := beq_eq_false_iff_ne.mpr k6
   by_cases k7 : a.f0 = 7
   case neg =>
    rw [if_neg k7] at hwe
    have q7 : (a.f0 == 7) = false := beq_eq_false_iff_ne.mpr k7
    have h17 := HK.out
    have k123 : a.f0 = 1 ∨ a.f0 = 2 ∨ a.f0 = 3 := by omega
    have HWE := hid hwe
    clear hwe k4 k5 k6 k7 hsz h17
    rcases k123 with k1 | k1 | k1
    all_goals (
     go_wp2
     go_ret
     exact ⟨by rw [HRE.out, HWE.out, k1]; rfl, HH.out.1⟩)
   rw [if_pos k7] at hwe
   have q7 : (a.f0 == 7) = true := beq_iff_eq.mpr k7
   have hPE : List.zipWith qk a.f2 (wriL a.f3) = P := by rw [← HPE.out, partsW, if_pos k7]
   rw [hPE] at hwe
   have hsz2 := hsz
   rw [hwe, size_app, size_app] at hsz2
   have e1 : (⟨#[123]⟩ : ByteArray).size = 1 := rfl
   have e2 : (⟨#[125]⟩ : ByteArray).size = 1 := rfl
   rw [e1, e2] at hsz2
   have hjc := ff Ao co P wr hrd.2.2 hrd.2.1 hPl (by omega)
   obtain ⟨J, hJ⟩ : ∃ J, joinB P = J := ⟨_, rfl⟩
   rw [hJ] at hwe hjc hsz2
   have sz1 : (9223372036854775807 < 1 + J.size) = False := eq_false (by omega)
   have sz2 : (9223372036854775807 < 1 + J.size + 1) = False := eq_false (by omega)
   have HWE := hid hwe
   clear hwe k4 k5 k6 k7 hJ hsz hsz2 hPE
   go_wp2_with (go_at_call 70; refine hjc.mono ?_; rintro e w9 ⟨rfl, hb9⟩)
   go_ret
   exact ⟨by rw [HRE.out, HWE.out]; rfl, below_step HH.out.1 hb9⟩
theorem wri_all (a : S28) : WriAt a := wri_step a fun x hx => wri_all x
termination_by SizeOf.sizeOf a
decreasing_by
  have := List.sizeOf_lt_of_mem hx
  have : SizeOf.sizeOf a.f3 < SizeOf.sizeOf a := by cases a; simp only [S28.mk.sizeOf_spec]; omega
  omega
def bJ.f (k : Nat) (a0_0 : Int) (a0_1 : ByteArray) (ab : List ByteArray) (aa : List S28) : Option ByteArray := if mayF ⟨a0_0, a0_1, ab, aa⟩ 1 = true ∧ okM ⟨a0_0, a0_1, ab, aa⟩ = true ∧ (wriF ⟨a0_0, a0_1, ab, aa⟩).size ≤ 1099511627776 then some (wriF ⟨a0_0, a0_1, ab, aa⟩) else none
theorem bJ.calls (k : Nat) (a0_0 : Int) (a0_1 : ByteArray) (A0_2 : Option Addr) (c0_2 : Nat) (ab : List ByteArray) (A0_3 : Option Addr) (c0_3 : Nat) (aa : List S28) (r : ByteArray) (w : World) (hr0_2 : Kd.C Kd.string w A0_2 ab.length ab) (hc0_2 : ab.length ≤ c0_2) (hr0_3 : Kd.C k28 w A0_3 aa.length aa) (hc0_3 : aa.length ≤ c0_3) (h : bJ.f k a0_0 a0_1 ab aa = some r) :
 Calls Tryz.prog 40 #[.agg #[.int .i64 a0_0, .string a0_1, .slice A0_2 ab.length c0_2, .slice A0_3 aa.length c0_3]] w fun e w' => e = .returned (.string r) ∧ Below w.heap.size w w' := by
 unfold bJ.f at h
 split at h
 ·rename_i hok
  obtain rfl := Option.some.inj h
  exact wri_all ⟨a0_0, a0_1, ab, aa⟩ ⟨1, hok.1⟩ hok.2.1 hok.2.2 A0_2 c0_2 A0_3 c0_3 w hr0_2 hc0_2 hr0_3 hc0_3
 ·cases h
end Go.Proofs.YtodnggilomanbaaGreatDoor.Hand
