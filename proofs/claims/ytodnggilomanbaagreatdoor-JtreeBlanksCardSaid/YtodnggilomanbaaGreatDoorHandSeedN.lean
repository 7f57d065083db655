/-
  The seed's node: the walk.
-/
import Derived.Test.YtodnggilomanbaaGreatDoorHandCa
namespace Go.Proofs.YtodnggilomanbaaGreatDoor.Hand
open Go.RowKit Go.Lib Go.Proofs.YtodnggilomanbaaGreatDoorW.PrintWords Go.Proofs.YtodnggilomanbaaGreatDoorW.PrintLast Go.Proofs.YtodnggilomanbaaGreatDoorW.PrintMore Go.Proofs.YtodnggilomanbaaGreatDoor.PAll
set_option linter.unusedVariables false
set_option linter.unusedSimpArgs false

/-! ### what it makes -/
def npieces : List ByteArray := [⟨#[48]⟩, ⟨#[45, 48]⟩, ⟨#[55]⟩, ⟨#[45, 49, 50]⟩, ⟨#[57, 48, 48, 55, 49, 57, 57, 50, 53, 52, 55, 52, 48, 57, 57, 51]⟩, ⟨#[49, 56, 52, 52, 54, 55, 52, 52, 48, 55, 51, 55, 48, 57, 53, 53, 49, 54, 49, 54]⟩]
def numB (j : Int) : ByteArray := npieces.getD j.toNat ⟨#[]⟩
abbrev numC : Array Value := #[.string ⟨#[48]⟩, .string ⟨#[45, 48]⟩, .string ⟨#[55]⟩, .string ⟨#[45, 49, 50]⟩, .string ⟨#[57, 48, 48, 55, 49, 57, 57, 50, 53, 52, 55, 52, 48, 57, 57, 51]⟩, .string ⟨#[49, 56, 52, 52, 54, 55, 52, 52, 48, 55, 51, 55, 48, 57, 53, 53, 49, 54, 49, 54]⟩]
theorem numC_at {j : Int} (h0 : 0 ≤ j) (h1 : j < 6) : numC[j.toNat]? = some (.string (numB j)) := by
  have h : j = 0 ∨ j = 1 ∨ j = 2 ∨ j = 3 ∨ j = 4 ∨ j = 5 := by omega
  rcases h with rfl | rfl | rfl | rfl | rfl | rfl <;> rfl
def letters : ByteArray := ⟨#[97, 98, 99, 100, 101, 102, 103]⟩
def keyS (w : ByteArray) (i : Nat) : ByteArray := w ++ letters.extract i (i + 1)
abbrev SeedFn := List Int → S28 × List Int
def kids (NF : SeedFn) (k : Int) : Nat → List ByteArray → List S28 → List Int → List ByteArray × List S28 × List Int
  | 0, keys, L, l => (keys, L, l)
  | i + 1, keys, L, l =>
    if k = 6 then kids NF k i (keys ++ [keyS (sdWord l).1 (i + 1)]) (L ++ [(NF (sdWord l).2).1]) (NF (sdWord l).2).2
    else kids NF k i keys (L ++ [(NF l).1]) (NF l).2
def sdK (m : Nat) (l : List Int) : Int := if m = 0 ∨ (nextF l 7).2 = [] then Int.tmod (nextF l 7).1 5 else (nextF l 7).1
def leafS (k : Int) (l1 : List Int) : S28 × List Int :=
  if k = 3 then (⟨4, numB (nextF l1 6).1, [], []⟩, (nextF l1 6).2)
  else if k = 4 then (⟨5, (sdWord l1).1, [], []⟩, (sdWord l1).2)
  else (⟨1 + k, ⟨#[]⟩, [], []⟩, l1)
def manyS (NF : SeedFn) (k : Int) (l1 : List Int) : S28 × List Int :=
  (⟨1 + k, ⟨#[]⟩, (kids NF k (nextF l1 4).1.toNat [] [] (nextF l1 4).2).1, (kids NF k (nextF l1 4).1.toNat [] [] (nextF l1 4).2).2.1⟩, (kids NF k (nextF l1 4).1.toNat [] [] (nextF l1 4).2).2.2)
/-- A node out of numbers, m deeper ones below it. -/
def seedF : Nat → SeedFn
  | 0, l => leafS (sdK 0 l) (nextF l 7).2
  | m + 1, l => if sdK (m + 1) l < 5 then leafS (sdK (m + 1) l) (nextF l 7).2 else manyS (seedF m) (sdK (m + 1) l) (nextF l 7).2
theorem sdK_bd (m : Nat) (l : List Int) : 0 ≤ sdK m l ∧ sdK m l < 7 ∧ (m = 0 → sdK m l < 5) := by
  have h := nextF_bd l 7 (by decide)
  unfold sdK
  split
  · have h1 := Int.tmod_nonneg 5 h.1
    have h2 := Int.tmod_lt_of_pos (nextF l 7).1 (show (0 : Int) < 5 by decide)
    exact ⟨h1, by omega, fun _ => h2⟩
  · rename_i hn
    exact ⟨h.1, h.2, fun e => absurd (Or.inl e) hn⟩
/-! ### the walk -/
def SnOut (w0 w w' : World) (g : Nat) (r : S28 × List Int) (e : Ending) : Prop := ∃ v2 v3 : Value, e = .returned (.agg #[.int .i64 r.1.f0, .string r.1.f1, v2, v3]) ∧ Kd.R Kd.string 9 w' w.heap.size (fun _ => True) v2 r.1.f2 ∧ Kd.R k28 28 w' w.heap.size (fun k_ => some k_ ≠ (v2 : Value).ownBlock) v3 r.1.f3 ∧ SdOut w0 w w' g r.2
theorem sd_stored {w0 w W : World} {g b : Nat} {l : List Int} {cs : Array Value} (hs : SdOut w0 w W g l) (h : W.heap[b]? = some (.cells cs 28 (0, 0))) (hne : b ≠ g) (hwb : w.heap.size ≤ b) (hw0 : w0.heap.size ≤ b) (v0 v1 v2 v3 : Value) (h4 : cs.size = 4 := by rfl) :
    ((((W.setCell ⟨b, 0, none⟩ v0).setCell ⟨b, 1, none⟩ v1).setCell ⟨b, 2, none⟩ v2).setCell ⟨b, 3, none⟩ v3).heap[b]? = some (.cells #[v0, v1, v2, v3] 28 (0, 0)) ∧
    SdOut w0 w ((((W.setCell ⟨b, 0, none⟩ v0).setCell ⟨b, 1, none⟩ v1).setCell ⟨b, 2, none⟩ v2).setCell ⟨b, 3, none⟩ v3) g l := by
  obtain ⟨c⟩ := cs
  obtain ⟨a0, a1, a2, a3, rfl⟩ : ∃ a0 a1 a2 a3, c = [a0, a1, a2, a3] := by
    rcases c with _ | ⟨a0, _ | ⟨a1, _ | ⟨a2, _ | ⟨a3, _ | ⟨a4, c⟩⟩⟩⟩⟩ <;> first | (simp at h4; done) | exact ⟨_, _, _, _, rfl⟩
  refine ⟨?_, ?_, ?_, ?_⟩
  · exact blk_put (cs := #[v0, v1, v2, a3]) (blk_put (cs := #[v0, v1, a2, a3]) (blk_put (cs := #[v0, a1, a2, a3]) (blk_put (cs := #[a0, a1, a2, a3]) h 0 _ rfl) 1 _ rfl) 2 _ rfl) 3 _ rfl
  · exact (((hs.st.far hne.symm v0).far hne.symm v1).far hne.symm v2).far hne.symm v3
  · exact below_set (below_set (below_set (below_set hs.bl hw0) hw0) hw0) hw0
  · exact keep_far (keep_far (keep_far (keep_far hs.kp hwb _) hwb _) hwb _) hwb _
def stepS (k : Int) (i : Nat) (keys : List ByteArray) (l : List Int) : List ByteArray × List Int := if k = 6 then (keys ++ [keyS (sdWord l).1 (i + 1)], (sdWord l).2) else (keys, l)
theorem kids_at (NF : SeedFn) (k : Int) (i : Nat) (keys : List ByteArray) (L : List S28) (l : List Int) : kids NF k (i + 1) keys L l = kids NF k i (stepS k i keys l).1 (L ++ [(NF (stepS k i keys l).2).1]) (NF (stepS k i keys l).2).2 := by
  rw [kids, stepS]
  split <;> rfl
structure SRel (w0 w W : World) (g c2 : Nat) (k : Int) (keys : List ByteArray) (L : List S28) (l : List Int) (v2 v3 : Value) : Prop where
  r2 : Kd.R Kd.string 9 W w.heap.size (fun _ => True) v2 keys
  r3 : Kd.R k28 28 W w.heap.size (fun k_ => some k_ ≠ v2.ownBlock ∧ k_ ≠ w.heap.size ∧ k_ ≠ c2) v3 L
  k1 : W.heap[w.heap.size]? = some (.cells zcells 28 (0, 0))
  k2 : W.heap[c2]? = some (.cells #[.int .i64 (1 + k), .string ⟨#[]⟩, v2, v3] 28 (0, 0))
  st : SdOut w0 w W g l
theorem SRel.keep {w0 w W W' : World} {g c2 : Nat} {k : Int} {keys : List ByteArray} {L : List S28} {l l' : List Int} {v2 v3 : Value} (h : SRel w0 w W g c2 k keys L l v2 v3) (hg1 : w.heap.size ≠ g) (hg2 : c2 ≠ g) (hs : SdOut w0 W W' g l') : SRel w0 w W' g c2 k keys L l' v2 v3 :=
  ⟨Kd.R_mono (Kd.R_keep (IsSd.apart h.st.st h.r2 (by decide)) hs.kp (fun _ hh => hh.2)) (fun _ _ => trivial), Kd.R_mono (Kd.R_keep (IsSd.apart h.st.st h.r3 (by decide)) hs.kp (fun _ hh => hh.2)) (fun _ hh => hh.1), hs.kp.blk h.k1 hg1 (by simp), hs.kp.blk h.k2 hg2 (by simp), ⟨hs.st, hs.bl, h.st.kp.trans hs.kp (.inl rfl)⟩⟩
theorem SRel.drew {w0 w W : World} {g c2 : Nat} {k : Int} {keys : List ByteArray} {L : List S28} {l : List Int} {v2 v3 : Value} (h : SRel w0 w W g c2 k keys L l v2 v3) : SRel w0 w W.drew g c2 k keys L l v2 v3 :=
  ⟨Kd.R_drew h.r2, Kd.R_drew h.r3, blk_drew h.k1, blk_drew h.k2, ⟨h.st.st.drew, below_drew1 h.st.bl, keep_drew h.st.kp⟩⟩
section
variable {P : Program} {ops : Array Oper} {rest : List Oper} {o : Oper} {a : Act} {Q : Exit → Act → World → Prop} {α : Type}
theorem R_append1 (d : Kd α) {w0 W : World} (base : Nat) (hgd : o.guard = none) (s x : Operand) (t e : TypeId) (z : Value) (bytes : Nat)
    (ho : o.op = .call { callee := .builtin .append, args := #[s, x], argTypes := #[t, t] })
    (ht : P.underlying t = some (.slice e)) (hinfo : (P.info? e).map (fun i => (i.zero, i.size, i.bytes)) = some (some z, d.sz, bytes)) (hz : z.cells.size = d.sz) (hs0 : 0 < d.sz) (hb0 : 0 < bytes)
    (v : Value) (xs : List α) (p : α) (cs : List Value) (ok okp : Nat → Prop) (hs : a.eval s = v) (hx : a.eval x = .slice (some ⟨W.heap.size, 0, none⟩) 1 1) (hp : d.M W base okp p cs) (hokp : ∀ k, okp k → ok k ∧ some k ≠ v.ownBlock) (hfresh : ∀ k, W.heap.size ≤ k → ok k)
    (HO : d.R e W base ok v xs) (HB : Below base w0 W) (hbase : base ≤ W.heap.size) (hl : (xs.length + 1) * bytes ≤ 140737488355328)
    (h : ∀ v1 w1, d.R e w1 base ok v1 (xs ++ [p]) → Below base w0 w1 → W.grownBy w1 v.ownBlock → (v1.ownBlock = v.ownBlock ∨ ∃ b, v1.ownBlock = some b ∧ W.heap.size ≤ b) → wpList P ops Q rest (a.put o.dst v1) w1) :
    wpList P ops Q (o :: rest) a (W.alloc (.cells cs.toArray e)) := by
  obtain ⟨h0, inner, hown, hr⟩ := HO
  refine print_append_cells base hgd s x t e z d.sz bytes ho ht hinfo hz hs0 hb0 v xs.length inner cs hs hx (d.K_len (d.K_of_M hp)) (d.K_one (d.K_of_M hp)) hown HB hbase hl ?_
  intro v1 w1 hown1 hb1 hg1 hat1
  exact h v1 w1 (Kd.R_appended h0 hr hp hokp hfresh hown1 hg1 hat1) hb1 hg1 hat1
end
theorem info22s : (Tryz.prog.info? 9).map (fun i => (i.zero, i.size, i.bytes)) = some (some (.string ⟨#[]⟩), 1, 16) := by kernel_rfl
def snode_r18.T : Bool × List (List Nat × List Nat) := (true, [([], []), ([0], [0]), ([], []), ([], []), ([3], [3]), ([2, 4], [2, 4]), ([1, 5], [1, 5]), ([6, 1, 0, 1, 2, 3, 4, 5, 6], [6])])
def snode_r18.B : List Nat := [0, 1, 0, 0, 8, 28, 63, 127]
theorem snode_r18.tab : rtab .any (opsOf Tryz.f25 18) = snode_r18.T := by kernel_rfl
theorem snode_r18.bits : waitsOk snode_r18.T.2 snode_r18.B = true := by kernel_rfl
def snode_r20.T : Bool × List (List Nat × List Nat) := (true, [([], []), ([0], [0]), ([], []), ([], []), ([3], [3]), ([2, 4], [2, 4]), ([5], [5]), ([1, 6, 5], [1, 6]), ([0, 1, 2, 3, 4, 5, 6, 7], []), ([8, 7, 7, 0, 1, 2, 3, 4, 5, 6, 7], [7, 8])])
def snode_r20.B : List Nat := [0, 1, 0, 0, 8, 28, 60, 127, 255, 511]
theorem snode_r20.tab : rtab .any (opsOf Tryz.f25 20) = snode_r20.T := by kernel_rfl
theorem snode_r20.bits : waitsOk snode_r20.T.2 snode_r20.B = true := by kernel_rfl
set_option maxRecDepth 100000 in
set_option maxHeartbeats 8000000 in
theorem snode_step (NF : SeedFn) (g m : Nat) (deep : Int) (l : List Int) (w0 w : World) (hd : deep + m = 7) (h0 : 1 ≤ deep)
    (hNode : m ≠ 0 → ∀ (W : World) (l' : List Int), IsSd w0 W g l' → Below w0.heap.size w0 W → Calls Tryz.prog 25 #[.pointer (some ⟨g, 0, none⟩), .int .i64 (deep + 1)] W fun e w' => SnOut w0 W w' g (NF l') e)
    (hI : IsSd w0 w g l) (hB : Below w0.heap.size w0 w) :
    Calls Tryz.prog 25 #[.pointer (some ⟨g, 0, none⟩), .int .i64 deep] w fun e w' => SnOut w0 w w' g (if sdK m l < 5 then leafS (sdK m l) (nextF l 7).2 else manyS NF (sdK m l) (nextF l 7).2) e := by
  obtain ⟨r, hr⟩ : ∃ r, (if sdK m l < 5 then leafS (sdK m l) (nextF l 7).2 else manyS NF (sdK m l) (nextF l 7).2) = r := ⟨_, rfl⟩
  rw [hr]
  have hkb := sdK_bd m l
  have hne : w.heap.size ≠ g := (Nat.ne_of_lt hI.lt).symm
  have hge : w0.heap.size ≤ w.heap.size := hB.size
  have hK1 : KeepBut w (w.alloc (.cells zcells 28)) g none := keep_alloc (KeepBut.refl w g none) _
  have hb1 : (w.alloc (.cells zcells 28)).heap[w.heap.size]? = some (.cells zcells 28 (0, 0)) := heap_alloc_new w _
  have hnx := next_calls g l 7 w0 (w.alloc (.cells zcells 28)) (hI.alloc _) (below_alloc hB _) (by decide) (by decide)
  have hnb := nextF_bd l 7 (by decide)
  obtain ⟨k0, hk0⟩ : ∃ k0, (nextF l 7).1 = k0 := ⟨_, rfl⟩
  obtain ⟨l1, hl1⟩ : ∃ l1, (nextF l 7).2 = l1 := ⟨_, rfl⟩
  have hsk : sdK m l = if m = 0 ∨ l1 = [] then Int.tmod k0 5 else k0 := by unfold sdK; rw [hk0, hl1]
  obtain ⟨k, hk⟩ : ∃ k, sdK m l = k := ⟨_, rfl⟩
  rw [hk] at hkb hsk hr
  rw [hl1] at hr hnx
  rw [hk0] at hnx hnb
  have HR := hid hr
  have HKB := hid hkb
  have HE := hid (And.intro hne hge)
  clear hr hkb hk hk0 hl1
  go_enter Tryz.func25, Tryz.ntmps25
  go_upto_region 2 with (go_at_call 53; refine hnx.mono ?_; rintro e w4 ⟨rfl, hs4⟩; have hbk := hs4.kp.blk hb1 HE.out.1 (by simp); have hs5 : SdOut w0 w w4 g l1 := ⟨hs4.st, hs4.bl, hK1.trans hs4.kp (.inl rfl)⟩; have HS := hid (And.intro hs5 hbk); clear hs4 hbk hs5)
  clear hnx hK1 hb1 hne hge hB hI
  go_cut [20] (fun v20 wc => v20 = .bool (decide (m = 0 ∨ l1 = [])) ∧ wc = w4)
  case first =>
    obtain ⟨A, c, hbs, _⟩ := HS.out.1.st
    have hz4 := cell_of (i := 0) hbs rfl
    by_cases hm : m = 0
    · have hq : decide ((6 : Int) < deep) = true := decide_eq_true (by omega)
      have hd1 : decide (m = 0 ∨ l1 = []) = true := decide_eq_true (Or.inl hm)
      clear hbs
      go_wp2
      go_meet
      case rel => exact ⟨by rw [hd1], rfl⟩
    · have hq : decide ((6 : Int) < deep) = false := decide_eq_false (by omega)
      by_cases hl : l1 = []
      · have hd1 : decide (m = 0 ∨ l1 = []) = true := decide_eq_true (Or.inr hl)
        have hq2 : (((l1.length : Nat) : Int) == 0) = true := by rw [hl]; rfl
        clear hbs
        go_wp2
        go_meet
        case rel => exact ⟨by rw [hd1], rfl⟩
      · have hd1 : decide (m = 0 ∨ l1 = []) = false := decide_eq_false (by rintro (h | h); exact hm h; exact hl h)
        have hq2 : (((l1.length : Nat) : Int) == 0) = false := by
          have := List.length_pos_iff.2 hl
          exact beq_eq_false_iff_ne.mpr (by omega)
        clear hbs
        go_wp2
        go_meet
        case rel => exact ⟨by rw [hd1], rfl⟩
  case rest =>
    obtain ⟨rfl, rfl⟩ := hcut
    go_upto_if 20 with (fail)
    go_cut [5] (fun v5 wd => v5 = .int .i64 k ∧ wd = wc)
    case first =>
      by_cases hm : m = 0 ∨ l1 = []
      · have hd1 : decide (m = 0 ∨ l1 = []) = true := decide_eq_true hm
        rw [if_pos hm, Int.tmod_eq_emod_of_nonneg hnb.1] at hsk
        rw [hd1]
        go_wp2
        go_meet
        case rel => exact ⟨by rw [hsk], rfl⟩
      · have hd1 : decide (m = 0 ∨ l1 = []) = false := decide_eq_false hm
        rw [if_neg hm] at hsk
        rw [hd1]
        go_wp2
        go_meet
        case rel => exact ⟨by rw [hsk], rfl⟩
    case rest =>
      obtain ⟨rfl, rfl⟩ := hcut
      have HSK := hid hsk
      clear hsk hnb
      by_cases k4 : k < 5
      · have hr1 := HR.out
        rw [if_pos k4] at hr1
        by_cases k3 : k = 3
        · subst k3
          rw [leafS, if_pos rfl] at hr1
          have hb2 := nextF_bd l1 6 (by decide)
          obtain ⟨j, hj⟩ : ∃ j, (nextF l1 6).1 = j := ⟨_, rfl⟩
          obtain ⟨l2, hl2⟩ : ∃ l2, (nextF l1 6).2 = l2 := ⟨_, rfl⟩
          have hn2 := next_calls g l1 6 w0 (wc.alloc (.cells numC 9)) (HS.out.1.st.alloc _) (below_alloc HS.out.1.bl _) (by decide) (by decide)
          rw [hj, hl2] at hn2 hr1
          rw [hj] at hb2
          have hpc := numC_at hb2.1 hb2.2
          obtain ⟨pb, hpb⟩ : ∃ pb, numB j = pb := ⟨_, rfl⟩
          rw [hpb] at hr1 hpc
          have hne2 : wc.heap.size ≠ g := (Nat.ne_of_lt HS.out.1.st.lt).symm
          have hb0 : (wc.alloc (.cells numC 9)).heap[wc.heap.size]? = some (.cells numC 9 (0, 0)) := heap_alloc_new wc _
          have hb4 : (wc.alloc (.cells numC 9)).heap[w.heap.size]? = some (.cells zcells 28 (0, 0)) := blk_alloc HS.out.2 _
          have hk4 := keep_alloc HS.out.1.kp (.cells numC 9)
          have HR1 := hid hr1
          have p1 := eq_true hb2.1
          have p2 := eq_true hb2.2
          clear hr1 hb2 hj hl2 hpb
          go_wp2_with (go_at_call 53; refine hn2.mono ?_; rintro e w5 ⟨rfl, hs5⟩; have hc5 := (blk_cell (hs5.kp.blk hb0 hne2 (by simp)) j.toNat).trans hpc; have hbk := hs5.kp.blk hb4 HE.out.1 (by simp); have HS5 : Hid (SdOut w0 w w5 g l2 ∧ w5.heap[w.heap.size]? = some (.cells zcells 28 (0, 0))) := hid (And.intro ⟨hs5.st, hs5.bl, hk4.trans hs5.kp (.inl rfl)⟩ hbk); have B1 := hbk; have hc0 := cell_of (i := 0) B1 rfl; have hc1 := cell_of (i := 1) B1 rfl; have hc2 := cell_of (i := 2) B1 rfl; have hc3 := cell_of (i := 3) B1 rfl; have he0 := blk_frozen B1 0; have he1 := blk_frozen B1 1; have he2 := blk_frozen B1 2; have he3 := blk_frozen B1 3; clear B1; clear hs5 hbk)
          have hst := sd_stored HS5.out.1 HS5.out.2 HE.out.1 (Nat.le_refl _) HE.out.2 (.int .i64 4) (.string pb) (.slice none 0 0) (.slice none 0 0)
          rw [← HR1.out]
          refine bodyPost_ret (results_cell_row rfl _ _ w.heap.size 28 #[.int .i64 4, .string pb, .slice none 0 0, .slice none 0 0] (0, 0) _ rfl hst.1 Tryz.underlying28 rfl (by kernel_rfl)) rfl ?_
          exact ⟨_, _, rfl, Kd.R_nil _ _ _ _ _, Kd.R_nil _ _ _ _ _, hst.2⟩
        · by_cases k4' : k = 4
          · subst k4'
            rw [leafS, if_neg (by decide), if_pos rfl] at hr1
            have hn2 := sword_calls g l1 w0 wc HS.out.1.st HS.out.1.bl
            obtain ⟨pb, hpb⟩ : ∃ pb, (sdWord l1).1 = pb := ⟨_, rfl⟩
            obtain ⟨l2, hl2⟩ : ∃ l2, (sdWord l1).2 = l2 := ⟨_, rfl⟩
            rw [hpb, hl2] at hr1 hn2
            have HR1 := hid hr1
            clear hr1 hpb hl2
            go_wp2_with (go_at_call 54; refine hn2.mono ?_; rintro e w5 ⟨rfl, hs5⟩; have hbk := hs5.kp.blk HS.out.2 HE.out.1 (by simp); have HS5 : Hid (SdOut w0 w w5 g l2 ∧ w5.heap[w.heap.size]? = some (.cells zcells 28 (0, 0))) := hid (And.intro ⟨hs5.st, hs5.bl, HS.out.1.kp.trans hs5.kp (.inl rfl)⟩ hbk); have B1 := hbk; have hc0 := cell_of (i := 0) B1 rfl; have hc1 := cell_of (i := 1) B1 rfl; have hc2 := cell_of (i := 2) B1 rfl; have hc3 := cell_of (i := 3) B1 rfl; have he0 := blk_frozen B1 0; have he1 := blk_frozen B1 1; have he2 := blk_frozen B1 2; have he3 := blk_frozen B1 3; clear B1; clear hs5 hbk)
            have hst := sd_stored HS5.out.1 HS5.out.2 HE.out.1 (Nat.le_refl _) HE.out.2 (.int .i64 5) (.string pb) (.slice none 0 0) (.slice none 0 0)
            rw [← HR1.out]
            refine bodyPost_ret (results_cell_row rfl _ _ w.heap.size 28 #[.int .i64 5, .string pb, .slice none 0 0, .slice none 0 0] (0, 0) _ rfl hst.1 Tryz.underlying28 rfl (by kernel_rfl)) rfl ?_
            exact ⟨_, _, rfl, Kd.R_nil _ _ _ _ _, Kd.R_nil _ _ _ _ _, hst.2⟩
          · rw [leafS, if_neg k3, if_neg k4'] at hr1
            have hb := HKB.out
            have h012 : k = 0 ∨ k = 1 ∨ k = 2 := by omega
            have B1 := HS.out.2
            have hc0 := cell_of (i := 0) B1 rfl
            have hc1 := cell_of (i := 1) B1 rfl
            have hc2 := cell_of (i := 2) B1 rfl
            have hc3 := cell_of (i := 3) B1 rfl
            have he0 := blk_frozen B1 0
            have he1 := blk_frozen B1 1
            have he2 := blk_frozen B1 2
            have he3 := blk_frozen B1 3
            clear B1
            rcases h012 with rfl | rfl | rfl
            · go_wp2
              have hst := sd_stored HS.out.1 HS.out.2 HE.out.1 (Nat.le_refl _) HE.out.2 (.int .i64 1) (.string ⟨#[]⟩) (.slice none 0 0) (.slice none 0 0)
              rw [← hr1]
              refine bodyPost_ret (results_cell_row rfl _ _ w.heap.size 28 #[.int .i64 1, .string ⟨#[]⟩, .slice none 0 0, .slice none 0 0] (0, 0) _ rfl hst.1 Tryz.underlying28 rfl (by kernel_rfl)) rfl ?_
              exact ⟨_, _, rfl, Kd.R_nil _ _ _ _ _, Kd.R_nil _ _ _ _ _, hst.2⟩
            · go_wp2
              have hst := sd_stored HS.out.1 HS.out.2 HE.out.1 (Nat.le_refl _) HE.out.2 (.int .i64 2) (.string ⟨#[]⟩) (.slice none 0 0) (.slice none 0 0)
              rw [← hr1]
              refine bodyPost_ret (results_cell_row rfl _ _ w.heap.size 28 #[.int .i64 2, .string ⟨#[]⟩, .slice none 0 0, .slice none 0 0] (0, 0) _ rfl hst.1 Tryz.underlying28 rfl (by kernel_rfl)) rfl ?_
              exact ⟨_, _, rfl, Kd.R_nil _ _ _ _ _, Kd.R_nil _ _ _ _ _, hst.2⟩
            · go_wp2
              have hst := sd_stored HS.out.1 HS.out.2 HE.out.1 (Nat.le_refl _) HE.out.2 (.int .i64 3) (.string ⟨#[]⟩) (.slice none 0 0) (.slice none 0 0)
              rw [← hr1]
              refine bodyPost_ret (results_cell_row rfl _ _ w.heap.size 28 #[.int .i64 3, .string ⟨#[]⟩, .slice none 0 0, .slice none 0 0] (0, 0) _ rfl hst.1 Tryz.underlying28 rfl (by kernel_rfl)) rfl ?_
              exact ⟨_, _, rfl, Kd.R_nil _ _ _ _ _, Kd.R_nil _ _ _ _ _, hst.2⟩
      · have hr1 := HR.out
        rw [if_neg k4, manyS] at hr1
        have hm0 : m ≠ 0 := fun e => k4 (HKB.out.2.2 e)
        have hN := hNode hm0
        have hk7 : k < 7 := HKB.out.2.1
        -- the node that is built
        obtain ⟨b2, hb2⟩ : ∃ b2, wc.heap.size = b2 := ⟨_, rfl⟩
        have hlt1 := HS.out.1.st.lt
        have hlt2 := blk_lt HS.out.2
        have hg2 : b2 ≠ g := by omega
        have h12 : w.heap.size ≠ b2 := by omega
        have hge2 : w0.heap.size ≤ b2 := by have := HE.out.2; omega
        have hgw2 : w.heap.size ≤ b2 := by omega
        have HG2 := hid (And.intro hg2 (And.intro h12 (And.intro hge2 hgw2)))
        have hbn : (wc.alloc (.cells #[.int .i64 (1 + k), .string ⟨#[]⟩, .slice none 0 0, .slice none 0 0] 28)).heap[b2]? = some (.cells #[.int .i64 (1 + k), .string ⟨#[]⟩, .slice none 0 0, .slice none 0 0] 28 (0, 0)) := by rw [← hb2]; exact heap_alloc_new wc _
        have hsn : SdOut w0 w (wc.alloc (.cells #[.int .i64 (1 + k), .string ⟨#[]⟩, .slice none 0 0, .slice none 0 0] 28)) g l1 := ⟨HS.out.1.st.alloc _, below_alloc HS.out.1.bl _, keep_alloc HS.out.1.kp _⟩
        have HT13 := hid (And.intro (blk_alloc HS.out.2 (.cells #[.int .i64 (1 + k), .string ⟨#[]⟩, .slice none 0 0, .slice none 0 0] 28)) hbn)
        have hn4 := next_calls g l1 4 w0 _ hsn.st hsn.bl (by decide) (by decide)
        have hk13 := hsn.kp
        have hbd4 := nextF_bd l1 4 (by decide)
        obtain ⟨N, hN4⟩ : ∃ N : Nat, (nextF l1 4).1 = (N : Int) := ⟨(nextF l1 4).1.toNat, by omega⟩
        obtain ⟨l2, hl2⟩ : ∃ l2, (nextF l1 4).2 = l2 := ⟨_, rfl⟩
        rw [hN4, hl2] at hr1 hn4
        rw [hN4] at hbd4
        rw [Int.toNat_natCast] at hr1
        obtain ⟨RK, hRK⟩ : ∃ RK, kids NF k N [] [] l2 = RK := ⟨_, rfl⟩
        rw [hRK] at hr1
        have hw1k : wrap64 (1 + k) = 1 + k := by have := HKB.out.1; unfold wrap64; omega
        have q0 : (k == 0) = false := beq_eq_false_iff_ne.mpr (by omega)
        have q1 : (k == 1) = false := beq_eq_false_iff_ne.mpr (by omega)
        have q2 : (k == 2) = false := beq_eq_false_iff_ne.mpr (by omega)
        have q3 : (k == 3) = false := beq_eq_false_iff_ne.mpr (by omega)
        have q4 : (k == 4) = false := beq_eq_false_iff_ne.mpr (by omega)
        have HR1 := hid hr1
        have HRK := hid hRK
        have HBD := hid hbd4
        clear hr1 hRK hN4 hl2 hbn hsn hlt1 hlt2 hg2 h12 hge2 hgw2 hm0 hNode k4 hbd4
        subst hb2
        go_wp2_with (go_at_call 53; refine hn4.mono ?_; rintro e w6 ⟨rfl, hs6⟩; have HP6 : Hid (SRel w0 w w6 g wc.heap.size k [] [] l2 (.slice none 0 0) (.slice none 0 0)) := hid ⟨Kd.R_nil _ _ _ _ _, Kd.R_nil _ _ _ _ _, hs6.kp.blk HT13.out.1 HE.out.1 (by simp), hs6.kp.blk HT13.out.2 HG2.out.1 (by simp), ⟨hs6.st, hs6.bl, hk13.trans hs6.kp (.inl rfl)⟩⟩; clear hs6)
        clear hn4 hk13 q0 q1 q2 q3 q4 hw1k
        generalize wc.heap.size = b2 at HG2 HP6 ⊢
        go_loopw [7] (fun v7 wr => ∃ (i : Nat) (keys : List ByteArray) (L : List S28) (l3 : List Int) (v2 v3 : Value), v7 = .int .i64 i ∧ SRel w0 w wr g b2 k keys L l3 v2 v3 ∧ kids NF k i keys L l3 = RK ∧ i + keys.length ≤ 3 ∧ i + L.length ≤ 3) (fun v7 _ => (intOf v7).toNat)
        case atStart => exact ⟨N, [], [], l2, _, _, rfl, HP6.out, HRK.out, by have := HBD.out; simp; omega, by have := HBD.out; simp; omega⟩
        case round =>
          obtain ⟨i, keys, L, l3, v2, v3, rfl, hP, hki, hkl, hll⟩ := hrel
          cases i with
          | zero =>
            rw [kids] at hki
            obtain ⟨Ak, ck, ek⟩ := Kd.R_slice hP.r2
            subst ek
            obtain ⟨Al, cl, el⟩ := Kd.R_slice hP.r3
            subst el
            have HP := hid hP
            have hc0 := cell_of (i := 0) hP.k1 rfl
            have hc1 := cell_of (i := 1) hP.k1 rfl
            have hc2 := cell_of (i := 2) hP.k1 rfl
            have hc3 := cell_of (i := 3) hP.k1 rfl
            have hd0 := cell_of (i := 0) hP.k2 rfl
            have hd1 := cell_of (i := 1) hP.k2 rfl
            have hd2 := cell_of (i := 2) hP.k2 rfl
            have hd3 := cell_of (i := 3) hP.k2 rfl
            have he0 := blk_frozen hP.k1 0
            have he1 := blk_frozen hP.k1 1
            have he2 := blk_frozen hP.k1 2
            have he3 := blk_frozen hP.k1 3
            have hq : decide ((0 : Int) < ((0 : Nat) : Int)) = false := rfl
            clear hP
            go_wp2
            have hst := sd_stored HP.out.st HP.out.k1 HE.out.1 (Nat.le_refl _) HE.out.2 (.int .i64 (1 + k)) (.string ⟨#[]⟩) (.slice Ak keys.length ck) (.slice Al L.length cl)
            have hr := HR1.out
            rw [← hki] at hr
            rw [← hr]
            refine bodyPost_ret (results_cell_row rfl _ _ w.heap.size 28 #[.int .i64 (1 + k), .string ⟨#[]⟩, .slice Ak keys.length ck, .slice Al L.length cl] (0, 0) _ rfl hst.1 Tryz.underlying28 rfl (by kernel_rfl)) rfl ?_
            have q2 := Kd.R_types HP.out.r2 HP.out.k1 (by decide)
            have q3 := HP.out.r3
            exact ⟨_, _, rfl, Kd.R_mono (Kd.R_far (p := ⟨w.heap.size, 3, none⟩) (Kd.R_far (p := ⟨w.heap.size, 2, none⟩) (Kd.R_far (p := ⟨w.heap.size, 1, none⟩) (Kd.R_far (p := ⟨w.heap.size, 0, none⟩) q2 (fun _ hk => hk.2) _) (fun _ hk => hk.2) _) (fun _ hk => hk.2) _) (fun _ hk => hk.2) _) (fun _ _ => trivial), Kd.R_mono (Kd.R_far (p := ⟨w.heap.size, 3, none⟩) (Kd.R_far (p := ⟨w.heap.size, 2, none⟩) (Kd.R_far (p := ⟨w.heap.size, 1, none⟩) (Kd.R_far (p := ⟨w.heap.size, 0, none⟩) q3 (fun _ hk => hk.2.1) _) (fun _ hk => hk.2.1) _) (fun _ hk => hk.2.1) _) (fun _ hk => hk.2.1) _) (fun _ hk => hk.1), hst.2⟩
          | succ i =>
            have hp : decide ((0 : Int) < ((i + 1 : Nat) : Int)) = true := decide_eq_true (by omega)
            rw [kids_at] at hki
            have HP := hid hP
            have HKI := hid hki
            have HLL := hid (And.intro hkl hll)
            clear hP hki hkl hll
            go_upto_if 54 with (fail)
            go_cut [] (fun wd => ∃ (v2' : Value), SRel w0 w wd g b2 k (stepS k i keys l3).1 L (stepS k i keys l3).2 v2' v3)
            case first =>
              by_cases k6 : k = 6
              · have hq6 : (k == 6) = true := beq_iff_eq.mpr k6
                have hss : stepS k i keys l3 = (keys ++ [keyS (sdWord l3).1 (i + 1)], (sdWord l3).2) := by unfold stepS; rw [if_pos k6]
                have HSS := hid hss
                clear hss k6
                obtain ⟨Ao32, co32, eo32⟩ := Kd.R_slice HP.out.r2
                subst eo32
                have hcall0 := sword_calls g l3 w0 wr.drew HP.out.st.st.drew (below_drew1 HP.out.st.bl)
                have hwz := sdWord_sz l3
                obtain ⟨ww, hww⟩ : ∃ ww, (sdWord l3).1 = ww := ⟨_, rfl⟩
                obtain ⟨l4, hl4⟩ : ∃ l4, (sdWord l3).2 = l4 := ⟨_, rfl⟩
                rw [hww] at hwz
                rw [hww, hl4] at hcall0 HSS
                have hcall := Aside0.mk hcall0
                have HPD := hid (SRel.drew HP.out)
                clear hcall0 HP hww hl4
                have w2 : wrap64 2 = 2 := by unfold wrap64; omega
                have w3 : wrap64 3 = 3 := by unfold wrap64; omega
                have w4 : wrap64 4 = 4 := by unfold wrap64; omega
                have wz : (9223372036854775807 < ww.size + 1) = False := eq_false (by omega)
                obtain ⟨kk, hkk⟩ : ∃ kk, keyS ww (i + 1) = kk := ⟨_, rfl⟩
                rw [hkk] at HSS
                have hi2 : i = 0 ∨ i = 1 ∨ i = 2 := by have := HLL.out; omega
                go_wp2
                rcases hi2 with rfl | rfl | rfl
                all_goals
                  refine start_ (n := 8) (S := fun w' => w'.cell? ⟨w.heap.size, 0, none⟩ = some (.int .i64 0) ∧ w'.cell? ⟨w.heap.size, 1, none⟩ = some (.string (⟨#[]⟩ : ByteArray))) (ds := []) #[false, false, false, false, false, false, false, false] (by kernel_rfl) rfl rfl ⟨cell_of (i := 0) HPD.out.k1 rfl, cell_of (i := 1) HPD.out.k1 rfl⟩ (fun hHeld => ?_); refine with_tabW snode_r18.tab snode_r18.bits (fun HT_ HW_ => ?_)
                  generalize wr.drew = w31 at hcall HPD hHeld ⊢
                  refine pure_ (i := 0) (N := some 55) (v := ?_) (a' := ?_) #[true, false, false, false, false, false, false, false] rfl rfl (any_of HT_.out (by kernel_rfl)) (fun _ _ _ h => h) (Or.inl ⟨by rfl, ?_⟩) ?_ ?_
                  rotate_left
                  · intro w'
                    go_simp
                    with_reducible rfl
                  rotate_left
                  · simp only [Act.put, List.setIfInBounds_toArray, List.set_cons_zero, List.set_cons_succ, i64_w, i32_w]
                    rfl
                  refine pure_ (i := 2) (N := some 57) (v := ?_) (a' := ?_) #[true, false, true, false, false, false, false, false] rfl rfl (any_of HT_.out (by kernel_rfl)) (fun _ _ _ h => h) (Or.inl ⟨by rfl, ?_⟩) ?_ ?_
                  rotate_left
                  · intro w'
                    go_simp
                    with_reducible rfl
                  rotate_left
                  · simp only [Act.put, List.setIfInBounds_toArray, List.set_cons_zero, List.set_cons_succ, i64_w, i32_w]
                    rfl
                  refine pure_ (i := 3) (N := some 58) (v := ?_) (a' := ?_) #[true, false, true, true, false, false, false, false] rfl rfl (any_of HT_.out (by kernel_rfl)) (fun _ _ _ h => h) (Or.inl ⟨by rfl, ?_⟩) ?_ ?_
                  rotate_left
                  · intro w'
                    go_simp
                    with_reducible rfl
                  rotate_left
                  · simp only [Act.put, List.setIfInBounds_toArray, List.set_cons_zero, List.set_cons_succ, i64_w, i32_w]
                    rfl
                  refine pure_ (i := 4) (N := some 59) (v := ?_) (a' := ?_) #[true, false, true, true, true, false, false, false] rfl rfl (any_of HT_.out (by kernel_rfl)) (fun _ _ _ h => h) (Or.inl ⟨by rfl, ?_⟩) ?_ ?_
                  rotate_left
                  · intro w'
                    go_simp
                    with_reducible rfl
                  rotate_left
                  · simp only [Act.put, List.setIfInBounds_toArray, List.set_cons_zero, List.set_cons_succ, i64_w, i32_w]
                    rfl
                  refine pure_ (i := 5) (N := some 60) (v := ?_) (a' := ?_) #[true, false, true, true, true, true, false, false] rfl rfl (any_of HT_.out (by kernel_rfl)) (fun _ _ _ h => h) (Or.inl ⟨by rfl, ?_⟩) ?_ ?_
                  rotate_left
                  · intro w'
                    go_simp
                    with_reducible rfl
                  rotate_left
                  · simp only [Act.put, List.setIfInBounds_toArray, List.set_cons_zero, List.set_cons_succ, i64_w, i32_w]
                    rfl
                  refine one_ (i := 1) (N := some 56) #[true, true, true, true, true, true, false, false] rfl rfl (one_of HT_.out (by kernel_rfl)) (by decide) (fun K hK => ?_)
                  refine goes_ Tryz.func54 (by kernel_rfl) rfl #[.pointer (some ⟨g, 0, none⟩)] (by rfl) rfl rfl (by (try simp only [List.map_toArray, List.map_cons, List.map_nil]); first | done | rfl | (simp only [List.length_drop, List.length_take]; rfl)) ?_
                  with_reducible refine (hcall.out).mono ?_
                  rintro e w5 ⟨rfl, hs5⟩
                  refine ⟨_, rfl, ?_⟩
                  have HP5 := hid (HPD.out.keep HE.out.1 HG2.out.1 hs5)
                  clear hs5
                  refine hK.out _ _ ⟨cell_of (i := 0) HP5.out.k1 rfl, cell_of (i := 1) HP5.out.k1 rfl⟩ (fun hHeld => ?_)
                  clear hK K
                  refine norm_ (a' := ?_) ?_ ?_
                  rotate_left
                  · show Act.put _ (some 56) _ = _
                    simp only [Act.put, List.setIfInBounds_toArray, List.set_cons_zero, List.set_cons_succ, i64_w, i32_w]
                    rfl
                  refine pure_ (i := 6) (N := some 61) (v := ?_) (a' := ?_) #[true, true, true, true, true, true, true, false] rfl rfl (any_of HT_.out (by kernel_rfl)) (fun _ _ _ h => h) (Or.inl ⟨by rfl, ?_⟩) ?_ ?_
                  rotate_left
                  · intro w'
                    go_simp
                    with_reducible rfl
                  rotate_left
                  · simp only [Act.put, List.setIfInBounds_toArray, List.set_cons_zero, List.set_cons_succ, i64_w, i32_w]
                    rfl
                  refine pure_ (i := 7) (N := some 8) (v := ?_) (a' := ?_) #[true, true, true, true, true, true, true, true] rfl rfl (any_of HT_.out (by kernel_rfl)) (fun _ _ _ h => h) (Or.inl ⟨by rfl, ?_⟩) ?_ ?_
                  rotate_left
                  · intro w'
                    go_simp
                    with_reducible rfl
                  rotate_left
                  · simp only [Act.put, List.setIfInBounds_toArray, List.set_cons_zero, List.set_cons_succ, i64_w, i32_w]
                    rfl
                  refine done_ (done_of HT_.out (by kernel_rfl)) ?_
                  simp only [keyS, letters, Nat.reduceAdd] at hkk
                  rw [hkk]
                  have hd2 := cell_of (i := 2) HP5.out.k2 rfl
                  clear hkk wz w2 w3 w4 hHeld HT_ HW_
                  go_wp2_with ((with_reducible refine gate_builtin (b := .append) (xs := #[.tmp 63, .tmp 65]) rfl ?_); at_builtin; refine R_append1 Kd.string w.heap.size rfl (.tmp 63) (.tmp 65) 22 9 (.string ⟨#[]⟩) 16 rfl Tryz.underlying22 info22s rfl (by decide) (by omega) (.slice Ao32 keys.length co32) keys kk [.string kk] (fun _ => True) (fun _ => False) rfl rfl ?aP (fun _ hk => hk.elim) ?aF ?aO (Below.refl _ _) ?aS ?aL ?_; (case aP => exact rfl); (case aF => exact (fun _ _ => trivial)); (case aO => exact HP5.out.r2); (case aS => exact keep_size (w := w) (g := g) (row := none) HP5.out.st.kp); (case aL => have := HLL.out; omega); intro v118 w34 ho hb hg hat; obtain ⟨Ao35, co35, eo35⟩ := Kd.R_slice ho; subst eo35; have hbk2 := blk_grown HP5.out.k2 hg (Kd.R_ne HP5.out.r2 HP5.out.k2 (by decide)); have hs36 := cell_of (i := 2) hbk2 rfl; have hfs36 := blk_frozen hbk2 2; have HX := hid (And.intro ho (And.intro hb (And.intro hg hat))); have HX2 := hid hbk2; clear ho hb hg hat hbk2)
                  go_meet
                  case rel =>
                    have hss := HSS.out
                    have eL : (keys ++ [kk]).length = keys.length + 1 := by simp
                    have ho := HX.out.1
                    have hg := HX.out.2.2.1
                    have hbk1 := blk_grown HP5.out.k1 hg (Kd.R_ne HP5.out.r2 HP5.out.k1 (by decide))
                    have hr2 := Kd.R_mono (Kd.R_far (p := ⟨b2, 2, none⟩) (Kd.R_types ho HX2.out (by decide)) (fun _ hk => hk.2) (.slice Ao35 (keys.length + 1) co35)) (ok' := fun _ => True) (fun _ _ => trivial)
                    have hr3 := Kd.R_far (p := ⟨b2, 2, none⟩) (Kd.R_after (ok := (fun k_ => k_ ≠ w.heap.size ∧ k_ ≠ b2)) (Kd.R_mono HP5.out.r3 (fun _ hk => ⟨⟨hk.2.1, hk.2.2⟩, hk.1⟩)) hg HX.out.2.2.2) (fun _ hk => hk.1.2) (.slice Ao35 (keys.length + 1) co35)
                    rw [eL] at hr2
                    refine ⟨.slice Ao35 (keys.length + 1) co35, ?_⟩
                    rw [hss]
                    refine ⟨hr2, Kd.R_mono hr3 (fun k_ hk => ⟨?_, hk.1.1, hk.1.2⟩), blk_far (p := ⟨b2, 2, none⟩) hbk1 HG2.out.2.1 _, ?_, ?_⟩
                    · have h9 := hk.2
                      rwa [eL] at h9
                    · exact blk_put (cs := #[.int .i64 (1 + k), .string ⟨#[]⟩, .slice Ao32 keys.length co32, v3]) HX2.out 2 _ rfl
                    · refine ⟨(HP5.out.st.st.grown hg (IsSd.own_ne HP5.out.st.st HP5.out.r2 (by decide))).far HG2.out.1.symm _, below_set (below_weaken HP5.out.st.bl HE.out.2 HX.out.2.1) HG2.out.2.2.1, keep_far (KeepBut.trans HP5.out.st.kp (KeepBut.of_grown hg g) (Kd.R_base2 HP5.out.r2)) HG2.out.2.2.2 _⟩
              · have hq6 : (k == 6) = false := beq_eq_false_iff_ne.mpr k6
                have hss : stepS k i keys l3 = (keys, l3) := by unfold stepS; rw [if_neg k6]
                go_wp2
                go_meet
                case rel => exact ⟨v2, by rw [hss]; exact HP.out⟩
            case rest =>
              obtain ⟨u2, hP2⟩ := hcut
              obtain ⟨keys2, hk2⟩ : ∃ q, (stepS k i keys l3).1 = q := ⟨_, rfl⟩
              obtain ⟨l5, hl5⟩ : ∃ q, (stepS k i keys l3).2 = q := ⟨_, rfl⟩
              have hkl2 : keys2.length ≤ keys.length + 1 := by
                rw [← hk2, stepS]
                split <;> simp
              have hki := HKI.out
              rw [hk2, hl5] at hP2 hki
              obtain ⟨nd, hnd⟩ : ∃ q, (NF l5).1 = q := ⟨_, rfl⟩
              obtain ⟨l6, hl6⟩ : ∃ q, (NF l5).2 = q := ⟨_, rfl⟩
              rw [hnd, hl6] at hki
              have NB101_0 := Aside0.mk HE.out.1
              have NB102_0 := Aside0.mk HG2.out.1
              have NB0_101 := Aside0.mk (Ne.symm HE.out.1)
              have NB0_102 := Aside0.mk (Ne.symm HG2.out.1)
              have NB101_102 := Aside0.mk HG2.out.2.1
              have NB102_101 := Aside0.mk (Ne.symm HG2.out.2.1)
              have GE101 := Aside0.mk HE.out.2
              have GE102 := Aside0.mk HG2.out.2.2.1
              have GW101 := Aside0.mk (Nat.le_refl w.heap.size)
              have GW102 := Aside0.mk HG2.out.2.2.2
              have HL := Aside0.mk HE.out.2
              have HO_103002 := Aside0.mk (Kd.R_drew hP2.r2)
              have HO_103003 := Aside0.mk (Kd.R_drew hP2.r3)
              have BK101 := Aside0.mk (blk_drew hP2.k1)
              have BK102 := Aside0.mk (blk_drew hP2.k2)
              have HI0 := Aside0.mk (IsSd.drew hP2.st.st)
              have HK := Aside0.mk (keep_drew hP2.st.kp)
              have HB := Aside0.mk (below_drew1 hP2.st.bl)
              have hLs : L.length ≤ 1073741824 := by have := HLL.out; omega
              have HLEN := hid hLs
              have hcall0 := hN wc.drew l5 HI0.out HB.out
              simp only [SnOut, hnd, hl6] at hcall0
              have hcall := Aside0.mk hcall0
              have HKI2 := hid hki
              have HKL2 := hid hkl2
              have hw1d : wrap64 (deep + 1) = deep + 1 := by unfold wrap64; omega
              clear hcall0 hP2 hki hkl2 hk2 hl5 hnd hl6 hLs HKI hN HP
              go_wp2
              refine start_ (n := 10) (S := fun w' => w'.cell? ⟨b2, 0, none⟩ = some (.int .i64 (1 + k)) ∧ w'.cell? ⟨b2, 1, none⟩ = some (.string (⟨#[]⟩ : ByteArray)) ∧ w'.cell? ⟨b2, 2, none⟩ = some (u2) ∧ w'.cell? ⟨b2, 3, none⟩ = some (v3)) (ds := [9]) #[false, false, false, false, false, false, false, false, false, false] (by kernel_rfl) rfl rfl ⟨(blk_cell BK102.out 0).trans rfl, (blk_cell BK102.out 1).trans rfl, (blk_cell BK102.out 2).trans rfl, (blk_cell BK102.out 3).trans rfl⟩ (fun hHeld => ?_); refine with_tabW snode_r20.tab snode_r20.bits (fun HT_ HW_ => ?_)
              generalize wc.drew = w42 at hcall HO_103002 HO_103003 BK101 BK102 HI0 HK HB hHeld ⊢
              refine pure_ (i := 0) (N := some 68) (v := ?_) (a' := ?_) #[true, false, false, false, false, false, false, false, false, false] rfl rfl (any_of HT_.out (by kernel_rfl)) (fun _ _ _ h => h) (Or.inl ⟨by rfl, ?_⟩) ?_ ?_
              rotate_left
              · intro w'
                go_simp
                with_reducible rfl
              rotate_left
              · simp only [Act.put, List.setIfInBounds_toArray, List.set_cons_zero, List.set_cons_succ, i64_w, i32_w]
                rfl
              refine pure_ (i := 2) (N := some 70) (v := ?_) (a' := ?_) #[true, false, true, false, false, false, false, false, false, false] rfl rfl (any_of HT_.out (by kernel_rfl)) (fun _ _ _ h => h) (Or.inl ⟨by rfl, ?_⟩) ?_ ?_
              rotate_left
              · intro w'
                go_simp
                with_reducible rfl
              rotate_left
              · simp only [Act.put, List.setIfInBounds_toArray, List.set_cons_zero, List.set_cons_succ, i64_w, i32_w]
                rfl
              refine pure_ (i := 3) (N := some 71) (v := ?_) (a' := ?_) #[true, false, true, true, false, false, false, false, false, false] rfl rfl (any_of HT_.out (by kernel_rfl)) (fun _ _ _ h => h) (Or.inl ⟨by rfl, ?_⟩) ?_ ?_
              rotate_left
              · intro w'
                go_simp
                with_reducible rfl
              rotate_left
              · simp only [Act.put, List.setIfInBounds_toArray, List.set_cons_zero, List.set_cons_succ, i64_w, i32_w]
                rfl
              refine pure_ (i := 4) (N := some 72) (v := ?_) (a' := ?_) #[true, false, true, true, true, false, false, false, false, false] rfl rfl (any_of HT_.out (by kernel_rfl)) (fun _ _ _ h => h) (Or.inl ⟨by rfl, ?_⟩) ?_ ?_
              rotate_left
              · intro w'
                go_simp
                with_reducible rfl
              rotate_left
              · simp only [Act.put, List.setIfInBounds_toArray, List.set_cons_zero, List.set_cons_succ, i64_w, i32_w]
                rfl
              refine take_ (i := 1) (N := some 69) (v := ?_) (a' := ?_) #[true, true, true, true, true, false, false, false, false, false] rfl rfl (take_ofW HT_.out HW_.out (by kernel_rfl)) (fun _ _ _ h => h) (Or.inl ⟨by rfl, ?_⟩) hHeld ?_ ?_
              rotate_left
              · rintro w' ⟨s0, s1, s2, s3⟩
                go_simp
                with_reducible rfl
              rotate_left
              · simp only [Act.put, List.setIfInBounds_toArray, List.set_cons_zero, List.set_cons_succ, i64_w, i32_w]
                rfl
              refine one_ (i := 5) (N := some 73) #[true, true, true, true, true, true, false, false, false, false] rfl rfl (one_of HT_.out (by kernel_rfl)) (by decide) (fun K hK => ?_)
              refine goes_ Tryz.func25 (by kernel_rfl) rfl #[.pointer (some ⟨g, 0, none⟩), .int .i64 (deep + 1)] (by rfl) rfl rfl (by (try simp only [List.map_toArray, List.map_cons, List.map_nil]); first | done | rfl | (exact congrArg (fun z => #[Value.pointer (some ⟨g, 0, none⟩), Value.int .i64 z]) hw1d) | (show #[_, Value.int .i64 (wrap64 (deep + 1))] = _; rw [hw1d])) ?_
              with_reducible refine (hcall.out).mono ?_
              rintro e w43 ⟨v123, v126, rfl, ho0, ho1, ⟨hi, hb, hk⟩⟩
              refine ⟨_, rfl, ?_⟩
              have n0_ := Aside0.mk (Kd.R_mono (Kd.R_told (Kd.R_oldK (IsSd.apart (show IsSd w0 _ g l5 from by repeat (first | (with_reducible first | exact HI0.out | apply IsSd.alloc | apply IsSd.drewN | apply IsSd.drew | refine IsSd.far ?_ NB0_101.out _ | refine IsSd.far ?_ NB0_102.out _) | exact HI0.out)) (by (with_reducible repeat (first | apply Kd.R_alloc | apply Kd.R_drewN | apply Kd.R_drew)); exact HO_103002.out) (by decide)) hk) (Kd.R_base ho0)) (fun _ h_ => h_.1))
              have n1_ := Aside0.mk (Kd.R_mono (Kd.R_told (Kd.R_told (Kd.R_oldK (IsSd.apart (show IsSd w0 _ g l5 from by repeat (first | (with_reducible first | exact HI0.out | apply IsSd.alloc | apply IsSd.drewN | apply IsSd.drew | refine IsSd.far ?_ NB0_101.out _ | refine IsSd.far ?_ NB0_102.out _) | exact HI0.out)) (by (with_reducible repeat (first | apply Kd.R_alloc | apply Kd.R_drewN | apply Kd.R_drew)); exact HO_103003.out) (by decide)) hk) (Kd.R_base ho0)) (Kd.R_base ho1)) (fun _ h_ => h_.1))
              have n2_ := Aside0.mk (KeepBut.blk hk (g' := w.heap.size) (o := .cells #[.int .i64 0, .string (⟨#[]⟩ : ByteArray), .slice none 0 0, .slice none 0 0] 28 (0, 0)) (by (with_reducible repeat (first | refine blk_drewN ?_ _ | refine blk_drew ?_ | refine blk_alloc ?_ _)); exact BK101.out) NB101_0.out (by simp))
              have n3_ := Aside0.mk (KeepBut.blk hk (g' := (b2)) (o := .cells #[(.int .i64 (1 + k)), .string (⟨#[]⟩ : ByteArray), u2, v3] 28 (0, 0)) (by (with_reducible repeat (first | refine blk_drewN ?_ _ | refine blk_drew ?_ | refine blk_alloc ?_ _)); exact BK102.out) NB102_0.out (by simp))
              have n4_ := Aside0.mk (Kd.R_lower (Kd.R_new' ho0 (Kd.R_lt (by (with_reducible repeat (first | apply Kd.R_alloc | apply Kd.R_drewN | apply Kd.R_drew)); exact HO_103002.out))) (keep_size (w := w) (g := g) (row := none) (by repeat (first | (with_reducible first | exact HK.out | apply KeepBut.set_ | apply keep_drewN | apply keep_drew | apply keep_alloc | refine keep_far ?_ GW101.out _ | refine keep_far ?_ GW102.out _) | exact HK.out))))
              have n5_ := Aside0.mk (Kd.R_lower (Kd.R_newB (Kd.R_newB (Kd.R_new' (Kd.R_new' ho1 (Kd.R_lt (by (with_reducible repeat (first | apply Kd.R_alloc | apply Kd.R_drewN | apply Kd.R_drew)); exact HO_103002.out))) (Kd.R_lt (by (with_reducible repeat (first | apply Kd.R_alloc | apply Kd.R_drewN | apply Kd.R_drew)); exact HO_103003.out))) (g := w.heap.size) (o := .cells #[.int .i64 0, .string (⟨#[]⟩ : ByteArray), .slice none 0 0, .slice none 0 0] 28 (0, 0)) (by (with_reducible repeat (first | refine blk_drewN ?_ _ | refine blk_drew ?_ | refine blk_alloc ?_ _)); exact BK101.out)) (g := (b2)) (o := .cells #[(.int .i64 (1 + k)), .string (⟨#[]⟩ : ByteArray), u2, v3] 28 (0, 0)) (by (with_reducible repeat (first | refine blk_drewN ?_ _ | refine blk_drew ?_ | refine blk_alloc ?_ _)); exact BK102.out)) (keep_size (w := w) (g := g) (row := none) (by repeat (first | (with_reducible first | exact HK.out | apply KeepBut.set_ | apply keep_drewN | apply keep_drew | apply keep_alloc | refine keep_far ?_ GW101.out _ | refine keep_far ?_ GW102.out _) | exact HK.out))))
              have n6_ := Aside0.mk (KeepBut.trans (by repeat (first | (with_reducible first | exact HK.out | apply KeepBut.set_ | apply keep_drewN | apply keep_drew | apply keep_alloc | refine keep_far ?_ GW101.out _ | refine keep_far ?_ GW102.out _) | exact HK.out)) hk (.inl rfl))
              have n7_ := Aside0.mk (hb)
              have n8_ := Aside0.mk (hi)
              clear HO_103002
              clear HO_103003
              clear BK101
              clear BK102
              clear HK
              clear HB
              clear HI0
              have HO_103002 := n0_
              have HO_103003 := n1_
              have BK101 := n2_
              have BK102 := n3_
              have HO124 := n4_
              have HO127 := n5_
              have HK := n6_
              have HB := n7_
              have HI0 := n8_
              clear n0_ n1_ n2_ n3_ n4_ n5_ n6_ n7_ n8_
              (try clear hb)
              (try clear hb2)
              (try clear hk)
              (try clear hi)
              (try clear ho0)
              (try clear ho1)
              obtain ⟨Ao45, co45, eo45⟩ := Kd.R_slice HO124.out
              (first | subst eo45 | (injection eo45 with f1_ f2_ f3_; have f4_ := f1_.symm; have f5_ := f3_.symm; clear f1_ f2_ f3_; subst f4_; subst f5_))
              obtain ⟨Ao46, co46, eo46⟩ := Kd.R_slice HO127.out
              (first | subst eo46 | (injection eo46 with f1_ f2_ f3_; have f4_ := f1_.symm; have f5_ := f3_.symm; clear f1_ f2_ f3_; subst f4_; subst f5_))
              refine hK.out _ _ ⟨(blk_cell BK102.out 0).trans rfl, (blk_cell BK102.out 1).trans rfl, (blk_cell BK102.out 2).trans rfl, (blk_cell BK102.out 3).trans rfl⟩ (fun hHeld => ?_)
              clear hK K
              refine norm_ (a' := ?_) ?_ ?_
              rotate_left
              · show Act.put _ (some 73) _ = _
                simp only [Act.put, List.setIfInBounds_toArray, List.set_cons_zero, List.set_cons_succ, i64_w, i32_w]
                rfl
              refine one_ (i := 6) (N := some 74) #[true, true, true, true, true, true, true, false, false, false] rfl rfl (one_of HT_.out (by kernel_rfl)) (by decide) (fun K hK => ?_)
              refine value_ (w1 := ?_) (v := ?_) (by rfl) rfl ?_ ?_
              rotate_left 2
              · go_simp
                constructor
                · rfl
                · rfl
              refine hK.out _ _ ⟨(blk_cell (blk_alloc BK102.out _) 0).trans rfl, (blk_cell (blk_alloc BK102.out _) 1).trans rfl, (blk_cell (blk_alloc BK102.out _) 2).trans rfl, (blk_cell (blk_alloc BK102.out _) 3).trans rfl⟩ (fun hHeld => ?_)
              clear hK K
              refine norm_ (a' := ?_) ?_ ?_
              rotate_left
              · show Act.put _ (some 74) _ = _
                simp only [Act.put, List.setIfInBounds_toArray, List.set_cons_zero, List.set_cons_succ, i64_w, i32_w]
                rfl
              refine one_ (i := 7) (N := some 75) #[true, true, true, true, true, true, true, true, false, false] rfl rfl (one_of HT_.out (by kernel_rfl)) (by decide) (fun K hK => ?_)
              refine Kd.R_append_step k28 w.heap.size (by rfl) (.tmp 69) (.tmp 74) 26 28 (.agg #[(.int .i64 0), (.string ⟨#[]⟩), (.slice none 0 0), (.slice none 0 0)]) 72 rfl Tryz.underlying26 info28 rfl (by decide) (by omega) v3 L (nd : S28) [.int .i64 nd.f0, .string nd.f1, .slice Ao45 nd.f2.length co45, .slice Ao46 nd.f3.length co46] (fun k_ => some k_ ≠ (u2 : Value).ownBlock ∧ k_ ≠ w.heap.size ∧ k_ ≠ (b2)) (fun k_ => ((fun k_ => some k_ ≠ (u2 : Value).ownBlock ∧ k_ ≠ w.heap.size ∧ k_ ≠ (b2))) k_ ∧ some k_ ≠ (v3 : Value).ownBlock) rfl rfl ?aP (fun _ hk => hk) ?aF ?aO (Below.refl _ _) ?aS ?aL ?_
              (case aP => exact k28_mkM _ _ _ (nd : S28) (Kd.R_mono (Kd.R_types (Kd.R_types (Kd.R_apart' (HO124.out) (Kd.R_typed HO_103003.out) (by decide)) BK101.out (by decide)) BK102.out (by decide)) (fun k_ hk => ⟨⟨hk.1.1.1.2, ⟨hk.1.2, hk.2⟩⟩, hk.1.1.2⟩)) (Kd.R_mono (HO127.out) (fun k_ hk => ⟨⟨hk.1.1.1.2, ⟨hk.1.2, hk.2⟩⟩, hk.1.1.2⟩)))
              (case aF => exact (fun k_ hk => ⟨Kd.fresh' (Kd.R_lt (by (with_reducible repeat (first | apply Kd.R_alloc | apply Kd.R_drewN | apply Kd.R_drew)); exact HO_103002.out)) k_ hk, Kd.freshB (g := w.heap.size) (o := .cells #[.int .i64 0, .string (⟨#[]⟩ : ByteArray), .slice none 0 0, .slice none 0 0] 28 (0, 0)) (by (with_reducible repeat (first | refine blk_drewN ?_ _ | refine blk_drew ?_ | refine blk_alloc ?_ _)); exact BK101.out) k_ hk, Kd.freshB (g := (b2)) (o := .cells #[(.int .i64 (1 + k)), .string (⟨#[]⟩ : ByteArray), u2, v3] 28 (0, 0)) (by (with_reducible repeat (first | refine blk_drewN ?_ _ | refine blk_drew ?_ | refine blk_alloc ?_ _)); exact BK102.out) k_ hk⟩))
              (case aO => exact (by (with_reducible repeat (first | apply Kd.R_alloc | apply Kd.R_drewN | apply Kd.R_drew)); exact Kd.R_mono HO_103003.out (fun _ hk => ⟨hk.1.1.1, ⟨hk.1.1.2.1, hk.1.1.2.2⟩⟩)))
              (case aS => exact (keep_size (w := w) (g := g) (row := none) (by repeat (first | (with_reducible first | exact HK.out | apply KeepBut.set_ | apply keep_drewN | apply keep_drew | apply keep_alloc | refine keep_far ?_ GW101.out _ | refine keep_far ?_ GW102.out _) | exact HK.out))))
              (case aL => have := HLEN.out; omega)
              intro v133 w44 ho hb hg hat
              have n0_ := Aside0.mk (Kd.R_over' (by (with_reducible repeat (first | apply Kd.R_alloc | apply Kd.R_drewN | apply Kd.R_drew)); exact HO_103002.out) (Kd.R_typed (by (with_reducible repeat (first | apply Kd.R_alloc | apply Kd.R_drewN | apply Kd.R_drew)); exact HO_103003.out)) (by decide) hg)
              have n1_ := Aside0.mk (blk_grown (g := w.heap.size) (o := .cells #[.int .i64 0, .string (⟨#[]⟩ : ByteArray), .slice none 0 0, .slice none 0 0] 28 (0, 0)) (by (with_reducible repeat (first | refine blk_drewN ?_ _ | refine blk_drew ?_ | refine blk_alloc ?_ _)); exact BK101.out) hg (Kd.R_away HO_103003.out (fun _ hk => hk.1.1.2.1)))
              have n2_ := Aside0.mk (blk_grown (g := (b2)) (o := .cells #[(.int .i64 (1 + k)), .string (⟨#[]⟩ : ByteArray), u2, v3] 28 (0, 0)) (by (with_reducible repeat (first | refine blk_drewN ?_ _ | refine blk_drew ?_ | refine blk_alloc ?_ _)); exact BK102.out) hg (Kd.R_away HO_103003.out (fun _ hk => hk.1.1.2.2)))
              have n3_ := Aside0.mk (IsSd.grown (by repeat (first | (with_reducible first | exact HI0.out | apply IsSd.alloc | apply IsSd.drewN | apply IsSd.drew | refine IsSd.far ?_ NB0_101.out _ | refine IsSd.far ?_ NB0_102.out _) | exact HI0.out)) hg (IsSd.own_ne HI0.out HO_103003.out (by decide)))
              have n4_ := Aside0.mk (below_weaken (by repeat (first | (with_reducible first | exact HB.out | apply below_alloc | apply pw_below_drewN | apply below_drew1 | refine below_set ?_ (IsSd.ge HI0.out) | refine below_set ?_ GE101.out | refine below_set ?_ GE102.out) | exact HB.out)) HL.out hb)
              have n5_ := Aside0.mk (KeepBut.trans (by repeat (first | (with_reducible first | exact HK.out | apply KeepBut.set_ | apply keep_drewN | apply keep_drew | apply keep_alloc | refine keep_far ?_ GW101.out _ | refine keep_far ?_ GW102.out _) | exact HK.out)) (KeepBut.of_grown hg g) (Kd.R_base2 HO_103003.out))
              have n6_ := Aside0.mk (ho)
              clear HO_103002
              clear BK101
              clear BK102
              clear HI0
              clear HB
              clear HK
              clear HO_103003
              clear HO124
              clear HO127
              have HO_103002 := n0_
              have BK101 := n1_
              have BK102 := n2_
              have HI0 := n3_
              have HB := n4_
              have HK := n5_
              have HO134 := n6_
              clear n0_ n1_ n2_ n3_ n4_ n5_ n6_
              clear ho hb hg hat
              obtain ⟨Ao47, co47, eo47⟩ := Kd.R_slice HO134.out
              (first | subst eo47 | (injection eo47 with f1_ f2_ f3_; have f4_ := f1_.symm; have f5_ := f3_.symm; clear f1_ f2_ f3_; subst f4_; subst f5_))
              refine hK.out _ _ ⟨(blk_cell BK102.out 0).trans rfl, (blk_cell BK102.out 1).trans rfl, (blk_cell BK102.out 2).trans rfl, (blk_cell BK102.out 3).trans rfl⟩ (fun hHeld => ?_)
              clear hK K
              refine norm_ (a' := ?_) ?_ ?_
              rotate_left
              · show Act.put _ (some 75) _ = _
                simp only [Act.put, List.setIfInBounds_toArray, List.set_cons_zero, List.set_cons_succ, i64_w, i32_w]
                rfl
              refine pure_ (i := 8) (N := some 76) (v := ?_) (a' := ?_) #[true, true, true, true, true, true, true, true, true, false] rfl rfl (any_of HT_.out (by kernel_rfl)) (fun _ _ _ h => h) (Or.inl ⟨by rfl, ?_⟩) ?_ ?_
              rotate_left
              · intro w'
                go_simp
                with_reducible rfl
              rotate_left
              · simp only [Act.put, List.setIfInBounds_toArray, List.set_cons_zero, List.set_cons_succ, i64_w, i32_w]
                rfl
              refine last_ (i := 9) (N := none) #[true, true, true, true, true, true, true, true, true, true] rfl rfl (one_of HT_.out (by kernel_rfl)) (by decide) (fun K hK => ?_)
              have hs48 : w44.cell? ⟨b2, 3, none⟩ = some (v3) := (blk_cell BK102.out 3).trans rfl
              have hfs48 := blk_frozen BK102.out 3
              have hns48_0 := NB101_102.out
              have hms48_0 := NB102_101.out
              refine skip_ (w1 := ?_) (by rfl) rfl ?_ ?_
              rotate_left
              · go_simp
                rfl
              refine hK.out _ _ ?_
              clear hK K
              refine done_ (done_of HT_.out (by kernel_rfl)) ?_
              have eL : (L ++ [nd]).length = L.length + 1 := by simp
              have hr3 := Kd.R_far (p := ⟨b2, 3, none⟩) HO134.out (fun _ hk => hk.2.2) (.slice Ao47 (L.length + 1) co47)
              rw [eL] at hr3
              have hQ : SRel w0 w (w44.setCell ⟨b2, 3, none⟩ (.slice Ao47 (L.length + 1) co47)) g b2 k keys2 (L ++ [nd]) l6 u2 (.slice Ao47 (L.length + 1) co47) :=
                ⟨Kd.R_mono (Kd.R_far (p := ⟨b2, 3, none⟩) (Kd.R_types HO_103002.out BK102.out (by decide)) (fun _ hk => hk.2) _) (fun _ _ => trivial), hr3, blk_far (p := ⟨b2, 3, none⟩) BK101.out NB101_102.out _, blk_put (cs := #[.int .i64 (1 + k), .string ⟨#[]⟩, u2, v3]) BK102.out 3 _ rfl, ⟨HI0.out.far NB0_102.out _, below_set HB.out GE102.out, keep_far HK.out GW102.out _⟩⟩
              have HQ := hid hQ
              clear hQ hr3 HO134 HO_103002 BK101 BK102 HI0 HK HB hHeld HT_ HW_ hs48 hfs48 hns48_0 hms48_0 hcall
              simp only [List.length_append, List.length_singleton]
              generalize w44.setCell ⟨b2, 3, none⟩ (.slice Ao47 (L.length + 1) co47) = w45 at HQ ⊢
              go_wp2
              have hwi : wrap64 (i : Int) = (i : Int) := by have := HLL.out; unfold wrap64; omega
              rw [hwi]
              have h1 := HLL.out
              have h2 := HKL2.out
              exact ⟨⟨i, keys2, L ++ [nd], l6, u2, _, rfl, HQ.out, HKI2.out, by omega, by rw [eL]; omega⟩, by simp [intOf]⟩
theorem snode_calls (g : Nat) (w0 : World) : ∀ (m : Nat) (deep : Int) (l : List Int) (w : World), deep + m = 7 → 1 ≤ deep → IsSd w0 w g l → Below w0.heap.size w0 w →
    Calls Tryz.prog 25 #[.pointer (some ⟨g, 0, none⟩), .int .i64 deep] w fun e w' => SnOut w0 w w' g (seedF m l) e
  | 0, deep, l, w, hd, h0, hI, hB => by
    have h := snode_step (fun _ => (z28, [])) g 0 deep l w0 w hd h0 (fun h => absurd rfl h) hI hB
    rw [if_pos ((sdK_bd 0 l).2.2 rfl)] at h
    exact h
  | m + 1, deep, l, w, hd, h0, hI, hB =>
    snode_step (seedF m) g (m + 1) deep l w0 w hd h0 (fun _ W l' hI' hB' => snode_calls g w0 m (deep + 1) l' W (by omega) (by omega) hI' hB') hI hB
end Go.Proofs.YtodnggilomanbaaGreatDoor.Hand
