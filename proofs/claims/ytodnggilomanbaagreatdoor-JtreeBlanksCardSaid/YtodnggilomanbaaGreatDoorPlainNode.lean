/-
  A node's text, with blanks between its parts, is read as the node: no walk.
-/
import Derived.Test.YtodnggilomanbaaGreatDoorPlainStr
import Derived.Test.YtodnggilomanbaaGreatDoorHandWri
import Derived.Test.YtodnggilomanbaaGreatDoorGC
import Derived.Maps.Views
namespace Go.Proofs.YtodnggilomanbaaGreatDoor.Pure
open Go.RowKit Go.Lib Go.Proofs.YtodnggilomanbaaGreatDoor.PAll Go.Proofs.YtodnggilomanbaaGreatDoorW.PrintWords Go.Proofs.YtodnggilomanbaaGreatDoorW.PrintLast Go.Proofs.YtodnggilomanbaaGreatDoorW.PrintMore Go.Proofs.YtodnggilomanbaaGreatDoor.Hand
set_option linter.unusedVariables false
set_option linter.unusedSimpArgs false

/-! ### places -/
theorem by_app (a b : ByteArray) : bytesOf (a ++ b) = bytesOf a ++ bytesOf b := by simp [bytesOf, ByteArray.data_append]
theorem u8s_bytes (s : ByteArray) : u8s (bytesOf s) = s.data.toList := by
  rw [u8s, bytesOf, List.map_map]
  refine (List.map_congr_left (g := id) fun x _ => ?_).trans (List.map_id _)
  show UInt8.ofNat ((x.toNat : Int)).toNat = x
  rw [Int.toNat_natCast]
  simp
theorem str_bytes (s : ByteArray) : strOfNums (bytesOf s) = s := by
  show (⟨(u8s (bytesOf s)).toArray⟩ : ByteArray) = s
  rw [u8s_bytes]
theorem bytes_inj {a b : ByteArray} (h : bytesOf a = bytesOf b) : a = b := by rw [← str_bytes a, h, str_bytes]
theorem u8s_str (l : List Int) : u8s (bytesOf (strOfNums l)) = u8s l := by
  rw [u8s_bytes]
  rfl
theorem dr_step {s : ByteArray} {x : Nat} {p r : List Int} (h : (bytesOf s).drop x = p ++ r) : (bytesOf s).drop (x + p.length) = r := by
  rw [← List.drop_drop, h, List.drop_left]
theorem dr_le {s : ByteArray} {x : Nat} {p r : List Int} (h : (bytesOf s).drop x = p ++ r) (hx : x ≤ s.size) : x + p.length ≤ s.size := by
  have := congrArg List.length h
  rw [List.length_drop, bytesOf_length, List.length_append] at this
  omega
theorem dr_lt {s : ByteArray} {x : Nat} {c : Int} {r : List Int} (h : (bytesOf s).drop x = c :: r) : x < s.size := by
  have := congrArg List.length h
  rw [List.length_drop, bytesOf_length, List.length_cons] at this
  omega
theorem bt_dr {s : ByteArray} {x : Nat} {c : Int} {r : List Int} (h : (bytesOf s).drop x = c :: r) : bt s (x : Int) = c := by
  have hl := dr_lt h
  have := drop_bt s (y := (x : Int)) (by omega) (by omega)
  rw [Int.toNat_natCast, h] at this
  exact (List.cons.inj this).1.symm
theorem now_at {s : ByteArray} {x : Nat} {c : Int} {r : List Int} (h : (bytesOf s).drop x = c :: r) : nowF s (x : Int) = c := by
  have hl := dr_lt h
  unfold nowF
  rw [if_neg (by omega), bt_dr h]
theorem now_end {s : ByteArray} {x : Nat} (h : (bytesOf s).drop x = []) (hx : x ≤ s.size) : nowF s (x : Int) = 0 := by
  have := congrArg List.length h
  rw [List.length_drop, bytesOf_length, List.length_nil] at this
  unfold nowF
  rw [if_pos (by omega)]
/-- What follows is no blank. -/
def NB (r : List Int) : Prop := ∀ c, r.head? = some c → isBl c = false
def ND (r : List Int) : Prop := ∀ c, r.head? = some c → isDgt c = false
def AB (b : List Int) : Prop := ∀ c ∈ b, isBl c = true
theorem AB.app {a b : List Int} (h : AB a) (k : AB b) : AB (a ++ b) := fun c hc => (List.mem_append.1 hc).elim (h c) (k c)
theorem AB.nil : AB [] := fun c hc => by cases hc
theorem tw_app {p : Int → Bool} : ∀ (b r : List Int), (∀ c ∈ b, p c = true) → (∀ c, r.head? = some c → p c = false) → (b ++ r).takeWhile p = b
  | [], [], _, _ => rfl
  | [], c :: r, _, h => by
    have := h c rfl
    simp [this]
  | c :: b, r, hb, h => by
    rw [List.cons_append, List.takeWhile_cons, hb c (by simp), if_pos rfl, tw_app b r (fun d hd => hb d (by simp [hd])) h]
theorem blanks_at {s : ByteArray} {x : Nat} {b r : List Int} (h : (bytesOf s).drop x = b ++ r) (hb : AB b) (hr : NB r) : blanksF s (x : Int) = ((x + b.length : Nat) : Int) := by
  unfold blanksF nbl
  rw [Int.toNat_natCast, h, tw_app b r hb hr]
  omega
theorem word_at {s : ByteArray} : ∀ (w : List Int) (x : Nat) (r : List Int), (bytesOf s).drop x = w ++ r → wordF s w (x : Int) = .ok ((x + w.length : Nat) : Int)
  | [], x, r, _ => rfl
  | c :: w, x, r, h => by
    have h1 : (bytesOf s).drop x = c :: (w ++ r) := h
    have hl := dr_lt h1
    have h2 : (bytesOf s).drop (x + 1) = w ++ r := dr_step (p := [c]) h1
    rw [wordF, if_neg (by omega), if_pos (bt_dr h1), show (x : Int) + 1 = ((x + 1 : Nat) : Int) by omega, word_at w (x + 1) r h2, List.length_cons]
    congr 1
    omega

/-! ### a node's text -/
def wordL (k : Int) : List Int := if k = 1 then [110, 117, 108, 108] else if k = 2 then [102, 97, 108, 115, 101] else if k = 3 then [116, 114, 117, 101] else []
def cm : List (List Int) → List Int
  | [] => []
  | [x] => x
  | x :: y :: l => x ++ 44 :: cm (y :: l)
def kv (b : List Int) (k : ByteArray) (t : List Int) : List Int := b ++ (quoL k ++ (b ++ 58 :: t))
mutual
/-- A node's text, with blanks b between its parts. -/
def spc (b : List Int) : S28 → List Int
  | ⟨k, s, ks, L⟩ => if k = 4 then bytesOf s else if k = 5 then quoL s else if k = 6 then 91 :: (b ++ (cm (spcL b L) ++ (b ++ [93]))) else if k = 7 then 123 :: (b ++ (cm (List.zipWith (kv b) ks (spcL b L)) ++ (b ++ [125]))) else wordL k
def spcL (b : List Int) : List S28 → List (List Int)
  | [] => []
  | x :: l => (b ++ (spc b x ++ b)) :: spcL b l
end
mutual
def cnt : S28 → Nat
  | ⟨_, _, _, L⟩ => cntL L + 1
def cntL : List S28 → Nat
  | [] => 0
  | x :: l => cnt x + cntL l
end
theorem spcL_len (b : List Int) : ∀ l : List S28, (spcL b l).length = l.length
  | [] => rfl
  | x :: l => by rw [spcL, List.length_cons, spcL_len b l, List.length_cons]

/-! ### numbers -/
theorem num_parts {t : ByteArray} (h : isNumF t = true) : ∃ sg ds : List Int, bytesOf t = sg ++ ds ∧ (sg = [45] ∨ sg = []) ∧ (∀ c ∈ ds, isDgt c = true) ∧ 1 ≤ ds.length ∧ ds.length ≤ 40 ∧ (ds.length = 1 ∨ ds.head? ≠ some 48) := by
  have key : ∀ u : ByteArray, numOk u = true → (∀ c ∈ bytesOf u, isDgt c = true) ∧ 1 ≤ (bytesOf u).length ∧ (bytesOf u).length ≤ 40 ∧ ((bytesOf u).length = 1 ∨ (bytesOf u).head? ≠ some 48) := by
    intro u hu
    unfold numOk at hu
    simp only [Bool.and_eq_true, Bool.or_eq_true, decide_eq_true_eq] at hu
    obtain ⟨h1, h2, h3, h4⟩ := hu
    have hl := bytesOf_length u
    have e : (bytesOf u).takeWhile isDgt = bytesOf u := by
      have hs := List.takeWhile_sublist (p := isDgt) (l := bytesOf u)
      refine hs.eq_of_length ?_
      show ndg (bytesOf u) = _
      omega
    refine ⟨fun c hc => ?_, by omega, by omega, ?_⟩
    · rw [← e] at hc
      exact List.all_eq_true.1 List.all_takeWhile c hc
    · rcases h4 with h4 | h4
      · left; omega
      · right
        intro hh
        rcases hb : bytesOf u with _ | ⟨c, r⟩
        · rw [hb] at hh; cases hh
        · rw [hb] at hh
          cases hh
          exact h4 (bt_head hb)
  unfold isNumF Hand.trimF at h
  split at h
  · rename_i hc
    obtain ⟨h1, h2⟩ := hc
    refine ⟨[45], bytesOf (t.extract 1 t.size), ?_, Or.inl rfl, key _ h⟩
    rcases hb : bytesOf t with _ | ⟨c, r⟩
    · have := bytesOf_length t
      rw [hb] at this
      simp at this
      omega
    · rw [ext1 hb]
      have : (bytesOf (t.extract 0 1)) = [45] := by
        show (t.extract 0 1).data.toList.map _ = _
        have e : (t.extract 0 1).data.toList = (t.extract 0 1).toList := (ByteArray.toList_eq _).symm
        rw [e, h2]
        rfl
      rw [bytesOf_sl, hb] at this
      simp at this
      rw [this]
      rfl
  · exact ⟨[], bytesOf t, rfl, Or.inr rfl, key _ h⟩
theorem ndg_app {ds r : List Int} (h : ∀ c ∈ ds, isDgt c = true) (hr : ND r) : ndg (ds ++ r) = ds.length := by
  unfold ndg
  rw [tw_app ds r h hr]
theorem numAt_at {s : ByteArray} {x : Nat} {sg ds r : List Int} (h : (bytesOf s).drop x = sg ++ (ds ++ r)) (hs : sg = [45] ∨ sg = []) (hd : ∀ c ∈ ds, isDgt c = true) (h1 : 1 ≤ ds.length) : numAt s (x : Int) = ((x + sg.length : Nat) : Int) := by
  unfold numAt
  rcases hs with rfl | rfl
  · rw [if_pos (now_at (c := 45) (r := ds ++ r) h)]
    rfl
  · rcases ds with _ | ⟨c, ds⟩
    · cases h1
    · have hc := hd c (by simp)
      rw [if_neg]
      · rfl
      · intro e
        have := now_at (c := c) (r := ds ++ r) h
        rw [this] at e
        subst e
        cases hc
theorem number_at {s t : ByteArray} {x : Nat} {tail : List Int} {many deep : Int} (ht : isNumF t = true) (h : (bytesOf s).drop x = bytesOf t ++ tail) (hx : x ≤ s.size) (hn : ND tail) : numberF s (x : Int) many deep = .ok (⟨4, t, [], []⟩, ((x + (bytesOf t).length : Nat) : Int), many, deep) := by
  obtain ⟨sg, ds, hb, hs, hd, h1, h40, h48⟩ := num_parts ht
  have h2 : (bytesOf s).drop x = sg ++ (ds ++ tail) := by rw [h, hb, List.append_assoc]
  have hA := numAt_at h2 hs hd h1
  have h3 := dr_step h2
  have hg : ndg ((bytesOf s).drop (numAt s (x : Int)).toNat) = ds.length := by rw [hA, Int.toNat_natCast, h3, ndg_app hd hn]
  have hL : numLen s (numAt s (x : Int)) = (ds.length : Int) := by
    unfold numLen
    rw [hg]
    split
    · rename_i hc
      rcases h48 with h48 | h48
      · omega
      · exfalso
        rcases ds with _ | ⟨c, ds⟩
        · cases h1
        · rw [hA, now_at (c := c) (r := ds ++ tail) h3] at hc
          subst hc
          exact h48 rfl
    · rfl
  have hne : ¬ (¬ nowF s (numAt s (x : Int)) = 48 ∧ 40 < ds.length) := by omega
  have hE : s.extract x (x + sg.length + ds.length) = t := by
    apply bytes_inj
    rw [bytesOf_sl, List.drop_take, h2, hb, ← List.append_assoc, show x + sg.length + ds.length - x = (sg ++ ds).length by rw [List.length_append]; omega, List.take_left]
  unfold numberF
  rw [hg, if_neg (by omega), if_neg hne, hL, hA]
  have e2 : (((x + sg.length : Nat) : Int) + (ds.length : Int)) = ((x + sg.length + ds.length : Nat) : Int) := by omega
  rw [e2, Int.toNat_natCast, Int.toNat_natCast, hE, hb, List.length_append, Nat.add_assoc]

/-! ### strings -/
theorem hex_dig : ∀ i : Fin 16, dig (hexC (i.val : Int)) = true ∧ hx1 (lowc (hexC (i.val : Int))) = (i.val : Int) := by decide +kernel
theorem hex_at {d : Int} (h0 : 0 ≤ d) (h1 : d < 16) : dig (hexC d) = true ∧ hx1 (lowc (hexC d)) = d := by
  have := hex_dig ⟨d.toNat, by omega⟩
  rwa [show (((⟨d.toNat, by omega⟩ : Fin 16).val : Nat) : Int) = d from Int.toNat_of_nonneg h0] at this
theorem sh_esc : ∀ i : Fin 256, shH (i.val : Int) = true → escH (shV (i.val : Int)) = true ∧ escV (shV (i.val : Int)) = (i.val : Int) := by decide +kernel
theorem pc_byte {c : Int} (h0 : 0 ≤ c) (h1 : c < 256) : Pc (escB c) [c] := by
  unfold escB
  by_cases hs : shH c = true
  · rw [if_pos hs]
    have := sh_esc ⟨c.toNat, by omega⟩
    rw [show (((⟨c.toNat, by omega⟩ : Fin 256).val : Nat) : Int) = c from Int.toNat_of_nonneg h0] at this
    obtain ⟨p, q⟩ := this hs
    have r := pc_esc p
    rwa [q] at r
  · rw [if_neg hs]
    by_cases h32 : c < 32
    · rw [if_pos h32]
      obtain ⟨p1, q1⟩ := hex_at (d := c / 16) (by omega) (by omega)
      obtain ⟨p2, q2⟩ := hex_at (d := c % 16) (by omega) (by omega)
      have z := hex_at (d := 0) (by omega) (by omega)
      have hv : hv4 [48, 48, hexC (c / 16), hexC (c % 16)] = c := by
        unfold hv4
        unfold dig at p1 p2
        have z1 : isHx (lowc 48) = true := by decide
        have z2 : hx1 (lowc 48) = 0 := by decide
        rw [if_pos (by simp only [List.all_cons, List.all_nil, p1, p2, z1]; rfl)]
        unfold hfold
        simp only [List.map_cons, List.map_nil, List.foldl_cons, List.foldl_nil, q1, q2, z2]
        omega
      have r := pc_u (a := 48) (b := 48) ⟨by decide, by decide, p1, p2⟩ hv (by unfold isRn; simp only [Bool.or_eq_true, decide_eq_true_eq]; omega)
      rwa [encodeRuneZ_one h0 (by omega)] at r
    · rw [if_neg h32]
      have h34 : c ≠ 34 := by rintro rfl; exact hs (by decide)
      have h92 : c ≠ 92 := by rintro rfl; exact hs (by decide)
      exact pc_raw (by omega) h34 h92
theorem bytes_bd (s : ByteArray) : ∀ c ∈ bytesOf s, 0 ≤ c ∧ c < 256 := by
  intro c hc
  obtain ⟨b, _, rfl⟩ := List.mem_map.1 hc
  have := b.toNat_lt
  omega
theorem sps_bytes : ∀ l : List Int, (∀ c ∈ l, 0 ≤ c ∧ c < 256) → Sps (l.flatMap escB) l
  | [], _ => .nil
  | c :: l, h => by
    have h1 := h c (by simp)
    rw [List.flatMap_cons]
    exact .cons (p := escB c) (o := [c]) (pc_byte h1.1 h1.2) (sps_bytes l fun b hb => h b (by simp [hb]))
theorem str_at {s t : ByteArray} {x : Nat} {tail : List Int} (h : (bytesOf s).drop x = quoL t ++ tail) (hv : badF t = false) : strF s (x : Int) = .ok (t, ((x + (quoL t).length : Nat) : Int)) := by
  have h2 : (bytesOf s).drop x = 34 :: ((bytesOf t).flatMap escB ++ 34 :: tail) := by
    rw [h]
    unfold quoL
    simp
  have hv2 : Lib.validD (u8s (bytesOf t)) = true := by simpa [badF] using hv
  have := str_sps (sps_bytes _ (bytes_bd t)) h2 hv2
  rw [this, str_bytes]
  unfold quoL
  simp only [List.length_cons, List.length_append, List.length_nil]
  rfl

/-! ### keys that differ -/
theorem key_lit (x : ByteArray) : WideAt.IsKeyLit (keyL x) := trivial
theorem keyL_inj {x y : ByteArray} (h : keyL x = keyL y) : x = y := by
  have : x.data.toList = y.data.toList := by simpa [keyL] using h
  exact ByteArray.ext (Array.toList_inj.1 this)
theorem onceD_set (ks : List ByteArray) : onceD ks = Maps.setOf (.lit (.int .i64 0)) (ks.map keyL) := by
  unfold onceD Maps.setOf
  rw [List.foldl_map]
theorem once_tidy (ks : List ByteArray) : Maps.Tidy (onceD ks) := by
  rw [onceD_set]
  exact Maps.tidy_setOf _ _ (fun x hx => by obtain ⟨y, _, rfl⟩ := List.mem_map.1 hx; exact key_lit y)
theorem once_has (ks : List ByteArray) (x : ByteArray) : Maps.has (onceD ks) (keyL x) = true ↔ x ∈ ks := by
  rw [onceD_set, Maps.has_setOf _ _ _ (fun x hx => by obtain ⟨y, _, rfl⟩ := List.mem_map.1 hx; exact key_lit y)]
  simp only [List.any_eq_true, List.mem_map]
  constructor
  · rintro ⟨_, ⟨y, hy, rfl⟩, hk⟩
    rw [← keyL_inj (WideAt.sameKey_eq hk)]
    exact hy
  · intro h
    exact ⟨_, ⟨x, h, rfl⟩, WideAt.sameKey_self (key_lit x)⟩
theorem dsz_old {ks : List ByteArray} {x : ByteArray} (h : x ∈ ks) : dsz (ks ++ [x]) = dsz ks := by
  unfold dsz
  rw [onceD_snoc, Maps.size_put (once_tidy ks), if_pos ((once_has ks x).2 h)]
theorem dsz_new {ks : List ByteArray} {x : ByteArray} (h : x ∉ ks) : dsz (ks ++ [x]) = dsz ks + 1 := by
  unfold dsz
  rw [onceD_snoc, Maps.size_put (once_tidy ks), if_neg (fun e => h ((once_has ks x).1 e))]
theorem dsz_le : ∀ (n : Nat) (ks : List ByteArray), ks.length = n → dsz ks ≤ ks.length := by
  intro n
  induction n with
  | zero =>
    intro ks h
    rw [List.length_eq_zero_iff.1 h]
    exact Nat.le_refl _
  | succ n ih =>
    intro ks h
    obtain ⟨x, hx⟩ : ∃ x, ks = ks.dropLast ++ [x] := ⟨ks.getLast (by rintro rfl; cases h), (List.dropLast_concat_getLast _).symm⟩
    have hl : ks.dropLast.length = n := by rw [List.length_dropLast]; omega
    have := ih ks.dropLast hl
    rw [hx, List.length_append, List.length_singleton]
    by_cases hm : x ∈ ks.dropLast
    · rw [dsz_old hm]; omega
    · rw [dsz_new hm]; omega
theorem dsz_iff : ∀ (n : Nat) (ks : List ByteArray), ks.length = n → (dsz ks = ks.length ↔ ks.Nodup) := by
  intro n
  induction n with
  | zero =>
    intro ks h
    rw [List.length_eq_zero_iff.1 h]
    exact ⟨fun _ => List.nodup_nil, fun _ => rfl⟩
  | succ n ih =>
    intro ks h
    obtain ⟨x, hx⟩ : ∃ x, ks = ks.dropLast ++ [x] := ⟨ks.getLast (by rintro rfl; cases h), (List.dropLast_concat_getLast _).symm⟩
    have hl : ks.dropLast.length = n := by rw [List.length_dropLast]; omega
    have h1 := ih ks.dropLast hl
    have h2 := dsz_le n ks.dropLast hl
    rw [hx, List.length_append, List.length_singleton, List.nodup_append]
    by_cases hm : x ∈ ks.dropLast
    · rw [dsz_old hm]
      constructor
      · intro e; omega
      · rintro ⟨_, _, h3⟩
        exact absurd rfl (h3 x hm x (by simp))
    · rw [dsz_new hm]
      constructor
      · intro e
        exact ⟨h1.1 (by omega), by simp, fun a ha b hb => by simp at hb; subst hb; rintro rfl; exact hm ha⟩
      · rintro ⟨h3, _, _⟩
        have := h1.2 h3
        omega
theorem dsz_nodup {ks : List ByteArray} : dsz ks = ks.length ↔ ks.Nodup := dsz_iff _ ks rfl
theorem has_not {had : List ByteArray} {k : ByteArray} (h : k ∉ had) : Lib.containsS had k = false := by
  cases e : Lib.containsS had k
  · rfl
  · exact absurd ((Lib.containsS_iff had k).1 e) h

/-! ### what a node's text begins with -/
theorem quo_head (t : ByteArray) : ∃ r, quoL t = 34 :: r := ⟨_, rfl⟩
structure Begins (l : List Int) (c : Int) (r : List Int) : Prop where
  eq : l = c :: r
  way : isWay c = true
  nb : isBl c = false
  n93 : c ≠ 93
theorem spc_head {b : List Int} {n : S28} {d : Int} (h : mayF n d = true) : ∃ c r, Begins (spc b n) c r := by
  obtain ⟨k, s, ks, L⟩ := n
  rw [mayF] at h
  simp only [Bool.and_eq_true] at h
  have hi := h.1.1
  unfold isF at hi
  rw [spc]
  by_cases k123 : k = 1 ∨ k = 2 ∨ k = 3
  · rcases k123 with rfl | rfl | rfl
    · exact ⟨110, [117, 108, 108], rfl, by decide, by decide, by decide⟩
    · exact ⟨102, [97, 108, 115, 101], rfl, by decide, by decide, by decide⟩
    · exact ⟨116, [114, 117, 101], rfl, by decide, by decide, by decide⟩
  · rw [if_neg k123] at hi
    by_cases k4 : k = 4
    · rw [if_pos k4] at hi ⊢
      simp only [Bool.and_eq_true] at hi
      obtain ⟨sg, ds, hb, hs, hd, h1, _, _⟩ := num_parts hi.2
      rw [hb]
      rcases hs with rfl | rfl
      · exact ⟨45, ds, rfl, by decide, by decide, by decide⟩
      · rcases ds with _ | ⟨c, ds⟩
        · cases h1
        · have hc := hd c (by simp)
          have hc2 : 48 ≤ c ∧ c ≤ 57 := by simpa [isDgt] using hc
          refine ⟨c, ds, rfl, ?_, ?_, by omega⟩
          · unfold isWay
            simp only [Bool.or_eq_true, Bool.and_eq_true, decide_eq_true_eq]
            omega
          · unfold isBl
            simp only [Bool.or_eq_false_iff, decide_eq_false_iff_not]
            omega
    · rw [if_neg k4] at hi ⊢
      by_cases k5 : k = 5
      · rw [if_pos k5]
        exact ⟨34, _, rfl, by decide, by decide, by decide⟩
      · rw [if_neg k5] at hi ⊢
        by_cases k6 : k = 6
        · rw [if_pos k6]
          exact ⟨91, _, rfl, by decide, by decide, by decide⟩
        · rw [if_neg k6] at hi ⊢
          by_cases k7 : k = 7
          · rw [if_pos k7]
            exact ⟨123, _, rfl, by decide, by decide, by decide⟩
          · rw [if_neg k7] at hi
            cases hi
theorem Begins.NB {l : List Int} {c : Int} {r t : List Int} (h : Begins l c r) : NB (l ++ t) := by
  intro d hd
  rw [h.eq] at hd
  cases hd
  exact h.nb
/-! ### the reading -/
/-- The text of n is read as n, wherever it stands. -/
def Reads (b : List Int) (n : S28) : Prop := ∀ (s : ByteArray) (x : Nat) (pre tail : List Int) (many : Nat) (D k : Nat), (bytesOf s).drop x = pre ++ (spc b n ++ tail) → AB pre → ND tail → x ≤ s.size → mayF n ((D : Int) + 1) = true → k + D = 61 → many + cnt n ≤ 4000 →
  ∃ z : Nat, nodeF s k (x : Int) (many : Int) (D : Int) = .ok (n, (z : Int), ((many + cnt n : Nat) : Int), (D : Int)) ∧ (bytesOf s).drop z = tail ∧ z ≤ s.size
theorem AB.nd {b r : List Int} (h : AB b) (hr : ND r) : ND (b ++ r) := by
  intro c hc
  rcases b with _ | ⟨d, b⟩
  · exact hr c hc
  · cases hc
    have h1 := h c (by simp)
    have h2 : c = 32 ∨ c = 9 ∨ c = 10 ∨ c = 13 := by
      unfold isBl at h1
      simp only [Bool.or_eq_true, decide_eq_true_eq] at h1
      omega
    unfold isDgt
    rcases h2 with rfl | rfl | rfl | rfl <;> decide
theorem NB.one {c : Int} {r : List Int} (h : isBl c = false) : NB (c :: r) := by intro d hd; cases hd; exact h
theorem ND.one {c : Int} {r : List Int} (h : isDgt c = false) : ND (c :: r) := by intro d hd; cases hd; exact h
theorem cm_cons (x : List Int) (l : List (List Int)) (e : List Int) : ∃ t, cm (x :: l) ++ e = x ++ t ∧ ((l = [] ∧ t = e) ∨ (l ≠ [] ∧ t = 44 :: (cm l ++ e))) := by
  cases l with
  | nil => exact ⟨e, rfl, Or.inl ⟨rfl, rfl⟩⟩
  | cons y l => exact ⟨44 :: (cm (y :: l) ++ e), by rw [cm]; simp, Or.inr ⟨by simp, rfl⟩⟩
theorem strip {p0 R q r : List Int} {c : Int} (h : p0 ++ R = q ++ c :: r) (h0 : AB p0) (hq : AB q) (hc : isBl c = false) : ∃ q', AB q' ∧ R = q' ++ c :: r := by
  have dw : ∀ (b l : List Int), AB b → (b ++ l).dropWhile isBl = l.dropWhile isBl := by
    intro b
    induction b with
    | nil => intro l _; rfl
    | cons d b ih =>
      intro l hb
      rw [List.cons_append, List.dropWhile_cons, hb d (by simp), if_pos rfl]
      exact ih l fun e he => hb e (by simp [he])
  have h1 : R.dropWhile isBl = c :: r := by rw [← dw p0 R h0, h, dw q _ hq, List.dropWhile_cons, hc]; rfl
  refine ⟨R.takeWhile isBl, fun d hd => List.all_eq_true.1 List.all_takeWhile d hd, ?_⟩
  rw [← h1, List.takeWhile_append_dropWhile]
/-- A list's elements. -/
theorem list_reads {b : List Int} (hb : AB b) (s : ByteArray) (D k : Nat) (hk : k + (D + 1) = 61) : ∀ (l : List S28), l ≠ [] → (∀ n ∈ l, Reads b n) → mayL l ((D : Int) + 1 + 1) = true → ∀ (f x : Nat) (p0 pre tail : List Int) (L0 : List S28) (many : Nat),
    p0 ++ (bytesOf s).drop x = pre ++ (cm (spcL b l) ++ (b ++ 93 :: tail)) → AB p0 → AB pre → x ≤ s.size → many + cntL l ≤ 4000 → l.length ≤ f →
    ∃ z : Nat, partsL (nodeF s k) s 6 f [] L0 (x : Int) (many : Int) ((D : Int) + 1) = .ok ([], L0 ++ l, (z : Int), ((many + cntL l : Nat) : Int), (D : Int) + 1) ∧ (bytesOf s).drop z = 93 :: tail ∧ z ≤ s.size
  | [], h0, _, _, _, _, _, _, _, _, _, _, _, _, _, _, _ => absurd rfl h0
  | n :: l, _, hR, hm, 0, _, _, _, _, _, _, _, _, _, _, _, hf => by simp at hf
  | n :: l, _, hR, hm, f + 1, x, p0, pre, tail, L0, many, hd, hp0, hp, hx, hc, hf => by
    rw [mayL, Bool.and_eq_true] at hm
    rw [cntL] at hc ⊢
    rw [List.length_cons] at hf
    obtain ⟨t, ht, hcase⟩ := cm_cons (b ++ (spc b n ++ b)) (spcL b l) (b ++ 93 :: tail)
    obtain ⟨c, r, hbg⟩ := spc_head (b := b) hm.1
    have hd1 : p0 ++ (bytesOf s).drop x = (pre ++ b) ++ c :: (r ++ (b ++ t)) := by
      rw [hd, spcL, ht, hbg.eq]
      simp [List.append_assoc]
    obtain ⟨q', hq', hd2⟩ := strip hd1 hp0 (hp.app hb) hbg.nb
    rw [← List.cons_append, ← hbg.eq] at hd2
    have hnt : ND t := by
      rcases hcase with ⟨_, rfl⟩ | ⟨_, rfl⟩
      · exact hb.nd (ND.one (by decide))
      · exact ND.one (by decide)
    obtain ⟨z, hz, hz2, hz3⟩ := hR n (by simp) s x q' (b ++ t) many (D + 1) k hd2 hq' (hb.nd hnt) hx (by rw [Int.natCast_add]; exact hm.1) hk (by omega)
    rw [Int.natCast_add] at hz
    rw [partsL, stepK, if_neg (by decide)]
    simp only
    rw [show ((1 : Nat) : Int) = 1 from rfl] at hz
    rw [hz]
    simp only
    rcases hcase with ⟨hl, rfl⟩ | ⟨hl, rfl⟩
    · obtain rfl : l = [] := by
        have := spcL_len b l
        rw [hl] at this
        exact List.length_eq_zero_iff.1 this.symm
      have hz4 : (bytesOf s).drop z = (b ++ b) ++ 93 :: tail := by rw [hz2, List.append_assoc]
      have hB := blanks_at hz4 (hb.app hb) (NB.one (by decide))
      have h5 := dr_step hz4
      rw [hB, now_at h5, if_neg (by decide)]
      exact ⟨z + (b ++ b).length, by simp [cntL], h5, dr_le hz4 hz3⟩
    · have hB := blanks_at hz2 hb (NB.one (by decide))
      have h5 := dr_step hz2
      have h6 := dr_step (p := [44]) h5
      have h7 := dr_lt h5
      rw [hB, now_at h5, if_pos rfl]
      obtain ⟨z2, q1, q2, q3⟩ := list_reads hb s D k hk l (by rintro rfl; exact hl rfl) (fun m hm => hR m (by simp [hm])) hm.2 f (z + b.length + 1) [] [] tail (L0 ++ [n]) (many + cnt n) h6 AB.nil AB.nil (by omega) (by omega) (by omega)
      refine ⟨z2, ?_, q2, q3⟩
      rw [show (((z + b.length : Nat) : Int) + 1) = ((z + b.length + 1 : Nat) : Int) by omega, q1, List.append_assoc, Nat.add_assoc]
      rfl
theorem key_at {s k : ByteArray} {had : List ByteArray} {x : Nat} {pre b tail : List Int} (hp : AB pre) (hb : AB b) (hd : (bytesOf s).drop x = pre ++ (quoL k ++ (b ++ 58 :: tail))) (hv : badF k = false) (hn : k ∉ had) (hx : x ≤ s.size) :
    ∃ z : Nat, keyF s had (x : Int) = .ok (k, (z : Int)) ∧ (bytesOf s).drop z = tail ∧ z ≤ s.size := by
  have hB := blanks_at hd hp (by obtain ⟨r, hr⟩ := quo_head k; rw [hr]; exact NB.one (by decide))
  have h1 := dr_step hd
  have h2 := str_at h1 hv
  have h3 := dr_step h1
  have hB2 := blanks_at h3 hb (NB.one (by decide))
  have h4 := dr_step h3
  have h5 := word_at [58] _ tail h4
  have h6 := dr_step (p := [58]) h4
  have h7 := dr_lt h4
  refine ⟨_, ?_, h6, by simp only [List.length_cons, List.length_nil]; omega⟩
  unfold keyF
  rw [hB, h2]
  simp only
  rw [has_not hn, if_neg (by decide), hB2, h5]
/-- An object's. -/
theorem obj_reads {b : List Int} (hb : AB b) (s : ByteArray) (D k : Nat) (hk : k + (D + 1) = 61) : ∀ (l : List S28), l ≠ [] → (∀ n ∈ l, Reads b n) → mayL l ((D : Int) + 1 + 1) = true → ∀ (f x : Nat) (p0 pre tail : List Int) (ks had : List ByteArray) (L0 : List S28) (many : Nat),
    p0 ++ (bytesOf s).drop x = pre ++ (cm (List.zipWith (kv b) ks (spcL b l)) ++ (b ++ 125 :: tail)) → AB p0 → AB pre → x ≤ s.size → many + cntL l ≤ 4000 → l.length ≤ f → ks.length = l.length → (had ++ ks).Nodup → (∀ q ∈ ks, badF q = false) →
    ∃ z : Nat, partsL (nodeF s k) s 7 f had L0 (x : Int) (many : Int) ((D : Int) + 1) = .ok (had ++ ks, L0 ++ l, (z : Int), ((many + cntL l : Nat) : Int), (D : Int) + 1) ∧ (bytesOf s).drop z = 125 :: tail ∧ z ≤ s.size
  | [], h0, _, _, _, _, _, _, _, _, _, _, _, _, _, _, _, _, _, _, _, _ => absurd rfl h0
  | n :: l, _, hR, hm, 0, _, _, _, _, _, _, _, _, _, _, _, _, _, hf, _, _, _ => by simp at hf
  | n :: l, _, hR, hm, f + 1, x, p0, pre, tail, [], had, L0, many, hd, hp0, hp, hx, hc, hf, hl, hnd, hbd => by simp at hl
  | n :: l, _, hR, hm, f + 1, x, p0, pre, tail, q :: ks, had, L0, many, hd, hp0, hp, hx, hc, hf, hlen, hnd, hbd => by
    rw [mayL, Bool.and_eq_true] at hm
    rw [cntL] at hc ⊢
    rw [List.length_cons] at hf
    rw [List.length_cons, List.length_cons] at hlen
    obtain ⟨t, ht, hcase⟩ := cm_cons (kv b q (b ++ (spc b n ++ b))) (List.zipWith (kv b) ks (spcL b l)) (b ++ 125 :: tail)
    obtain ⟨r, hqr⟩ := quo_head q
    have hd1 : p0 ++ (bytesOf s).drop x = (pre ++ b) ++ 34 :: (r ++ (b ++ 58 :: (b ++ (spc b n ++ (b ++ t))))) := by
      rw [hd, spcL, List.zipWith_cons_cons, ht]
      simp [kv, hqr, List.append_assoc]
    obtain ⟨q', hq', hd2⟩ := strip hd1 hp0 (hp.app hb) (by decide)
    rw [← List.cons_append, ← hqr] at hd2
    have hq : q ∉ had := fun hq => by
      rw [List.nodup_append] at hnd
      exact hnd.2.2 q hq q (by simp) rfl
    obtain ⟨y, hy, hy2, hy3⟩ := key_at hq' hb hd2 (hbd q (by simp)) hq hx
    have hnt : ND t := by
      rcases hcase with ⟨_, rfl⟩ | ⟨_, rfl⟩
      · exact hb.nd (ND.one (by decide))
      · exact ND.one (by decide)
    obtain ⟨z, hz, hz2, hz3⟩ := hR n (by simp) s y b (b ++ t) many (D + 1) k hy2 hb (hb.nd hnt) hy3 (by rw [Int.natCast_add]; exact hm.1) hk (by omega)
    rw [Int.natCast_add, show ((1 : Nat) : Int) = 1 from rfl] at hz
    rw [partsL, stepK, if_pos rfl, hy]
    simp only
    rw [hz]
    simp only
    rcases hcase with ⟨hl, rfl⟩ | ⟨hl, rfl⟩
    · obtain rfl : l = [] := by
        have := congrArg List.length hl
        rw [List.length_zipWith, spcL_len, List.length_nil] at this
        exact List.length_eq_zero_iff.1 (by omega)
      obtain rfl : ks = [] := List.length_eq_zero_iff.1 (by simpa using hlen)
      have hz4 : (bytesOf s).drop z = (b ++ b) ++ 125 :: tail := by rw [hz2, List.append_assoc]
      have hB := blanks_at hz4 (hb.app hb) (NB.one (by decide))
      have h5 := dr_step hz4
      rw [hB, now_at h5, if_neg (by decide)]
      exact ⟨z + (b ++ b).length, by simp [cntL], h5, dr_le hz4 hz3⟩
    · have hB := blanks_at hz2 hb (NB.one (by decide))
      have h5 := dr_step hz2
      have h6 := dr_step (p := [44]) h5
      have h7 := dr_lt h5
      rw [hB, now_at h5, if_pos rfl]
      obtain ⟨z2, q1, q2, q3⟩ := obj_reads hb s D k hk l (by rintro rfl; cases ks <;> exact hl rfl) (fun m hm => hR m (by simp [hm])) hm.2 f (z + b.length + 1) [] [] tail ks (had ++ [q]) (L0 ++ [n]) (many + cnt n) h6 AB.nil AB.nil (by omega) (by omega) (by omega) (by omega) (by rwa [List.append_assoc]) (fun r hr => hbd r (by simp [hr]))
      refine ⟨z2, ?_, q2, q3⟩
      rw [show (((z + b.length : Nat) : Int) + 1) = ((z + b.length + 1 : Nat) : Int) by omega, q1, List.append_assoc, List.append_assoc, Nat.add_assoc]
      rfl
theorem cnt_mem : ∀ {l : List S28} {n : S28}, n ∈ l → cnt n ≤ cntL l
  | x :: l, n, h => by
    rw [cntL]
    rcases List.mem_cons.1 h with rfl | h
    · omega
    · have := cnt_mem h
      omega
theorem may_deep {n : S28} {d : Int} (h : mayF n d = true) : d ≤ 60 := by
  obtain ⟨k, s, ks, L⟩ := n
  rw [mayF] at h
  simp only [Bool.and_eq_true, decide_eq_true_eq] at h
  exact h.1.2
theorem node_go {s : ByteArray} {x : Nat} {pre r : List Int} {c : Int} {many D k : Nat} {n : S28} {z m : Nat} (hd : (bytesOf s).drop x = pre ++ c :: r) (hp : AB pre) (hc : isBl c = false) (hw : isWay c = true) (hm : many + 1 ≤ 4000) (hD : D + 1 ≤ 60)
    (h : wayF (nodeF s k) s c ((x + pre.length : Nat) : Int) (((many + 1 : Nat) : Int)) ((D : Int) + 1) = .ok (n, (z : Int), (m : Int), (D : Int) + 1)) : nodeF s (k + 1) (x : Int) (many : Int) (D : Int) = .ok (n, (z : Int), (m : Int), (D : Int)) := by
  have hB := blanks_at hd hp (NB.one hc)
  have h5 := dr_step hd
  rw [nodeF]
  simp only
  rw [hB, now_at h5, if_pos hw, if_neg (by omega), show (many : Int) + 1 = ((many + 1 : Nat) : Int) by omega, h]
  simp only [Except.ok.injEq, Prod.mk.injEq, true_and]
  omega
theorem cm_len : ∀ P : List (List Int), P.length ≤ (cm P).length + 1
  | [] => by simp
  | [x] => by simp
  | x :: y :: l => by
    have := cm_len (y :: l)
    simp only [cm, List.length_append, List.length_cons] at this ⊢
    omega
theorem reads_all {b : List Int} (hb : AB b) : ∀ (N : Nat) (n : S28), cnt n ≤ N → Reads b n
  | 0, n, h => by
    obtain ⟨k, s, ks, L⟩ := n
    rw [cnt] at h
    omega
  | N + 1, n, hN => by
    intro s x pre tail many D k hd hp ht hx hm hk hc
    have hD := may_deep hm
    obtain ⟨k, rfl⟩ : ∃ k', k = k' + 1 := ⟨k - 1, by omega⟩
    obtain ⟨c, r, hbg⟩ := spc_head (b := b) hm
    have hcc := hc
    obtain ⟨kd, t, ks, L⟩ := n
    have hc1 : 1 ≤ cnt ⟨kd, t, ks, L⟩ := by rw [cnt]; omega
    have hd2 : (bytesOf s).drop x = pre ++ c :: (r ++ tail) := by rw [hd, hbg.eq]; rfl
    have hd3 := dr_step hd
    have hxp := dr_le hd hx
    have hxe := dr_le hd3 hxp
    have hde := dr_step hd3
    have hR : ∀ n ∈ L, Reads b n := fun n hn => reads_all hb N n (by have := cnt_mem hn; rw [cnt] at hN; omega)
    have go : ∀ {z m : Nat}, wayF (nodeF s k) s c ((x + pre.length : Nat) : Int) (((many + 1 : Nat) : Int)) ((D : Int) + 1) = .ok (⟨kd, t, ks, L⟩, (z : Int), (m : Int), (D : Int) + 1) → nodeF s (k + 1) (x : Int) (many : Int) (D : Int) = .ok (⟨kd, t, ks, L⟩, (z : Int), (m : Int), (D : Int)) := fun h => node_go hd2 hp hbg.nb hbg.way (by omega) (by omega) h
    have hbeg := hbg.eq
    have hk1 : k + (D + 1) = 61 := by omega
    have hcn : many + cnt ⟨kd, t, ks, L⟩ = many + 1 + cntL L := by rw [cnt]; omega
    have hcL : many + 1 + cntL L ≤ 4000 := by omega
    rw [mayF] at hm
    simp only [Bool.and_eq_true, decide_eq_true_eq] at hm
    obtain ⟨⟨hi, hdeep⟩, hmL⟩ := hm
    unfold isF at hi
    rw [spc] at hbeg hd3 hde hxe
    have leaf : ∀ {w : List Int} {q : Int}, t.toList.isEmpty = true → ks.length = 0 → L.length = 0 → kd = q → (bytesOf s).drop (x + pre.length) = w ++ tail → (bytesOf s).drop (x + pre.length + w.length) = tail → x + pre.length + w.length ≤ s.size → wayF (nodeF s k) s c ((x + pre.length : Nat) : Int) (((many + 1 : Nat) : Int)) ((D : Int) + 1) = leafF s w q ((x + pre.length : Nat) : Int) (((many + 1 : Nat) : Int)) ((D : Int) + 1) →
        ∃ z : Nat, nodeF s (k + 1) (x : Int) (many : Int) (D : Int) = .ok (⟨kd, t, ks, L⟩, (z : Int), ((many + cnt ⟨kd, t, ks, L⟩ : Nat) : Int), (D : Int)) ∧ (bytesOf s).drop z = tail ∧ z ≤ s.size := by
      intro w q h1 h2 h3 h4 h5 h6 h7 h8
      obtain rfl : ks = [] := List.length_eq_zero_iff.1 h2
      obtain rfl : L = [] := List.length_eq_zero_iff.1 h3
      have h9 : t = ⟨#[]⟩ := by
        apply bytes_inj
        have e : t.data.toList = t.toList := (ByteArray.toList_eq _).symm
        show t.data.toList.map _ = []
        rw [e, List.isEmpty_iff.1 h1]
        rfl
      subst h9 h4
      refine ⟨x + pre.length + w.length, go ?_, h6, h7⟩
      rw [h8, leafF, word_at w _ tail h5]
      rfl
    by_cases k123 : kd = 1 ∨ kd = 2 ∨ kd = 3
    · rw [if_pos k123] at hi
      simp only [Bool.and_eq_true, decide_eq_true_eq] at hi
      rcases k123 with rfl | rfl | rfl
      · obtain ⟨rfl, rfl⟩ : c = 110 ∧ r = [117, 108, 108] := by
          have := hbeg.symm
          exact List.cons.inj this
        exact leaf hi.2 hi.1.1 hi.1.2 rfl hd3 hde hxe rfl
      · obtain ⟨rfl, rfl⟩ : c = 102 ∧ r = [97, 108, 115, 101] := by
          have := hbeg.symm
          exact List.cons.inj this
        exact leaf hi.2 hi.1.1 hi.1.2 rfl hd3 hde hxe rfl
      · obtain ⟨rfl, rfl⟩ : c = 116 ∧ r = [114, 117, 101] := by
          have := hbeg.symm
          exact List.cons.inj this
        exact leaf hi.2 hi.1.1 hi.1.2 rfl hd3 hde hxe rfl
    · rw [if_neg k123] at hi
      by_cases k4 : kd = 4
      · rw [if_pos k4] at hi hbeg hd3 hde hxe
        simp only [Bool.and_eq_true, decide_eq_true_eq] at hi
        obtain rfl : ks = [] := List.length_eq_zero_iff.1 hi.1.1
        obtain rfl : L = [] := List.length_eq_zero_iff.1 hi.1.2
        refine ⟨x + pre.length + (bytesOf t).length, go ?_, hde, hxe⟩
        have hnw : c ≠ 110 ∧ c ≠ 102 ∧ c ≠ 116 ∧ c ≠ 34 ∧ c ≠ 91 ∧ c ≠ 123 := by
          obtain ⟨sg, ds, hb', hs, hdg, h1, _, _⟩ := num_parts hi.2
          rw [hb'] at hbeg
          rcases hs with rfl | rfl
          · have := (List.cons.inj hbeg).1
            omega
          · rcases ds with _ | ⟨e, ds⟩
            · cases h1
            · have h2 := hdg e (by simp)
              have h3 : 48 ≤ e ∧ e ≤ 57 := by simpa [isDgt] using h2
              have := (List.cons.inj hbeg).1
              omega
        unfold wayF
        rw [if_neg hnw.1, if_neg hnw.2.1, if_neg hnw.2.2.1, if_neg hnw.2.2.2.1, if_neg hnw.2.2.2.2.1, if_neg hnw.2.2.2.2.2, number_at hi.2 hd3 hxp ht, k4]
        rfl
      · rw [if_neg k4] at hi hbeg hd3 hde hxe
        by_cases k5 : kd = 5
        · rw [if_pos k5] at hi hbeg hd3 hde hxe
          simp only [Bool.and_eq_true, decide_eq_true_eq, Bool.not_eq_true'] at hi
          obtain rfl : ks = [] := List.length_eq_zero_iff.1 hi.1.1
          obtain rfl : L = [] := List.length_eq_zero_iff.1 hi.1.2
          obtain rfl : c = 34 := (List.cons.inj hbeg).1.symm
          refine ⟨x + pre.length + (quoL t).length, go ?_, hde, hxe⟩
          unfold wayF strN
          rw [if_neg (by decide), if_neg (by decide), if_neg (by decide), if_pos rfl, str_at hd3 hi.2, k5]
          rfl
        · rw [if_neg k5] at hi hbeg hd3 hde hxe
          by_cases k6 : kd = 6
          · rw [if_pos k6] at hi hbeg hd3 hde hxe
            simp only [Bool.and_eq_true, decide_eq_true_eq] at hi
            obtain rfl : ks = [] := List.length_eq_zero_iff.1 hi.2
            obtain rfl : t = ⟨#[]⟩ := by
              apply bytes_inj
              have e : t.data.toList = t.toList := (ByteArray.toList_eq _).symm
              show t.data.toList.map _ = []
              rw [e, List.isEmpty_iff.1 hi.1]
              rfl
            obtain rfl : c = 91 := (List.cons.inj hbeg).1.symm
            have h1 : (bytesOf s).drop (x + pre.length + 1) = b ++ (cm (spcL b L) ++ (b ++ 93 :: tail)) := by
              have := dr_step (p := [91]) (r := b ++ (cm (spcL b L) ++ (b ++ [93])) ++ tail) hd3
              simpa [List.append_assoc] using this
            have hlt := dr_lt (c := 91) (r := b ++ (cm (spcL b L) ++ (b ++ [93])) ++ tail) hd3
            have hway : ∀ {z m : Nat}, partsF (nodeF s k) s 6 93 ((x + pre.length : Nat) : Int) (((many + 1 : Nat) : Int)) ((D : Int) + 1) = .ok (⟨kd, ⟨#[]⟩, [], L⟩, (z : Int), (m : Int), (D : Int) + 1) → wayF (nodeF s k) s 91 ((x + pre.length : Nat) : Int) (((many + 1 : Nat) : Int)) ((D : Int) + 1) = .ok (⟨kd, ⟨#[]⟩, [], L⟩, (z : Int), (m : Int), (D : Int) + 1) := fun h => h
            have e1 : (((x + pre.length : Nat) : Int) + 1) = ((x + pre.length + 1 : Nat) : Int) := by omega
            rcases hL : L with _ | ⟨n0, L1⟩
            · subst hL
              have h2 : (bytesOf s).drop (x + pre.length + 1) = (b ++ b) ++ 93 :: tail := by rw [h1]; simp [spcL, cm, List.append_assoc]
              have hB := blanks_at h2 (hb.app hb) (NB.one (by decide))
              have h3 := dr_step h2
              have h4 := dr_step (p := [93]) h3
              have h5 := dr_lt h3
              refine ⟨x + pre.length + 1 + (b ++ b).length + 1, go (hway ?_), h4, by omega⟩
              unfold partsF
              rw [e1, hB, now_at h3, if_pos rfl, k6]
              rfl
            · rw [← hL]
              have hLs : L.length ≤ s.size + 1 := by
                have a := cm_len (spcL b L)
                have e := congrArg List.length h1
                rw [spcL_len] at a
                simp only [List.length_drop, bytesOf_length, List.length_append, List.length_cons] at e
                omega
              have hne : L ≠ [] := by rw [hL]; simp
              obtain ⟨c0, r0, hb0⟩ := spc_head (b := b) (n := n0) (d := (D : Int) + 1 + 1) (by rw [hL, mayL, Bool.and_eq_true] at hmL; exact hmL.1)
              obtain ⟨t', ht', _⟩ := cm_cons (b ++ (spc b n0 ++ b)) (spcL b L1) (b ++ 93 :: tail)
              have h2 : (bytesOf s).drop (x + pre.length + 1) = (b ++ b) ++ (c0 :: (r0 ++ (b ++ t'))) := by
                rw [h1, hL, spcL, ht', hb0.eq]
                simp [List.append_assoc]
              have hB := blanks_at h2 (hb.app hb) (NB.one hb0.nb)
              have h3 := dr_step h2
              have h5 := dr_le h2 (by omega)
              obtain ⟨z, q1, q2, q3⟩ := list_reads hb s D k hk1 L hne hR hmL (s.size + 1) (x + pre.length + 1 + (b ++ b).length) (b ++ b) b tail [] (many + 1) (by rw [h3, ← h2, h1]) (hb.app hb) hb h5 hcL hLs
              have q4 := word_at [93] z tail q2
              have q5 := dr_step (p := [93]) q2
              have q6 := dr_lt q2
              refine ⟨z + 1, go (hway ?_), q5, by omega⟩
              unfold partsF
              rw [e1, hB, now_at h3, if_neg hb0.n93, q1]
              simp only
              rw [q4, hcn, k6]
              rfl
          · rw [if_neg k6] at hi hbeg hd3 hde hxe
            by_cases k7 : kd = 7
            · rw [if_pos k7] at hi hbeg hd3 hde hxe
              simp only [Bool.and_eq_true, decide_eq_true_eq, Bool.not_eq_true'] at hi
              obtain ⟨⟨⟨hi1, hi2⟩, hi3⟩, hi4⟩ := hi
              have hnod := dsz_nodup.1 hi3
              have hbad : ∀ q ∈ ks, badF q = false := fun q hq => by
                have := List.any_eq_false.1 hi4 q hq
                simpa using this
              obtain rfl : t = ⟨#[]⟩ := by
                apply bytes_inj
                have e : t.data.toList = t.toList := (ByteArray.toList_eq _).symm
                show t.data.toList.map _ = []
                rw [e, List.isEmpty_iff.1 hi1]
                rfl
              obtain rfl : c = 123 := (List.cons.inj hbeg).1.symm
              have h1 : (bytesOf s).drop (x + pre.length + 1) = b ++ (cm (List.zipWith (kv b) ks (spcL b L)) ++ (b ++ 125 :: tail)) := by
                have := dr_step (p := [123]) (r := b ++ (cm (List.zipWith (kv b) ks (spcL b L)) ++ (b ++ [125])) ++ tail) hd3
                simpa [List.append_assoc] using this
              have hlt := dr_lt (c := 123) (r := b ++ (cm (List.zipWith (kv b) ks (spcL b L)) ++ (b ++ [125])) ++ tail) hd3
              have hway : ∀ {z m : Nat}, partsF (nodeF s k) s 7 125 ((x + pre.length : Nat) : Int) (((many + 1 : Nat) : Int)) ((D : Int) + 1) = .ok (⟨kd, ⟨#[]⟩, ks, L⟩, (z : Int), (m : Int), (D : Int) + 1) → wayF (nodeF s k) s 123 ((x + pre.length : Nat) : Int) (((many + 1 : Nat) : Int)) ((D : Int) + 1) = .ok (⟨kd, ⟨#[]⟩, ks, L⟩, (z : Int), (m : Int), (D : Int) + 1) := fun h => h
              have e1 : (((x + pre.length : Nat) : Int) + 1) = ((x + pre.length + 1 : Nat) : Int) := by omega
              rcases hL : L with _ | ⟨n0, L1⟩
              · subst hL
                obtain rfl : ks = [] := List.length_eq_zero_iff.1 (by simpa using hi2)
                have h2 : (bytesOf s).drop (x + pre.length + 1) = (b ++ b) ++ 125 :: tail := by rw [h1]; simp [spcL, cm, List.append_assoc]
                have hB := blanks_at h2 (hb.app hb) (NB.one (by decide))
                have h3 := dr_step h2
                have h4 := dr_step (p := [125]) h3
                have h5 := dr_lt h3
                refine ⟨x + pre.length + 1 + (b ++ b).length + 1, go (hway ?_), h4, by omega⟩
                unfold partsF
                rw [e1, hB, now_at h3, if_pos rfl, k7]
                rfl
              · rcases hK : ks with _ | ⟨q0, K1⟩
                · rw [hK, hL] at hi2
                  simp at hi2
                · rw [← hL, ← hK]
                  have hLs : L.length ≤ s.size + 1 := by
                    have a := cm_len (List.zipWith (kv b) ks (spcL b L))
                    have e := congrArg List.length h1
                    rw [List.length_zipWith, spcL_len] at a
                    simp only [List.length_drop, bytesOf_length, List.length_append, List.length_cons] at e
                    omega
                  have hne : L ≠ [] := by rw [hL]; simp
                  obtain ⟨t', ht', _⟩ := cm_cons (kv b q0 (b ++ (spc b n0 ++ b))) (List.zipWith (kv b) K1 (spcL b L1)) (b ++ 125 :: tail)
                  obtain ⟨r0, hr0⟩ := quo_head q0
                  have h2 : (bytesOf s).drop (x + pre.length + 1) = (b ++ b) ++ (34 :: (r0 ++ (b ++ 58 :: (b ++ (spc b n0 ++ (b ++ t')))))) := by
                    rw [h1, hL, hK, spcL, List.zipWith_cons_cons, ht']
                    simp [kv, hr0, List.append_assoc]
                  have hB := blanks_at h2 (hb.app hb) (NB.one (by decide))
                  have h3 := dr_step h2
                  have h5 := dr_le h2 (by omega)
                  obtain ⟨z, q1, q2, q3⟩ := obj_reads hb s D k hk1 L hne hR hmL (s.size + 1) (x + pre.length + 1 + (b ++ b).length) (b ++ b) b tail ks [] [] (many + 1) (by rw [h3, ← h2, h1]) (hb.app hb) hb h5 hcL hLs hi2 (by simpa using hnod) hbad
                  have q4 := word_at [125] z tail q2
                  have q5 := dr_step (p := [125]) q2
                  have q6 := dr_lt q2
                  refine ⟨z + 1, go (hway ?_), q5, by omega⟩
                  unfold partsF
                  rw [e1, hB, now_at h3, if_neg (by decide), q1]
                  simp only
                  rw [q4, hcn, k7]
                  rfl
            · rw [if_neg k7] at hi
              cases hi
/-- A text of a node, with blanks around it. -/
theorem parse_spc {b pre post : List Int} {s : ByteArray} {n : S28} (hb : AB b) (hp : AB pre) (hq : AB post) (hs : bytesOf s = pre ++ (spc b n ++ post)) (hm : mayF n 1 = true) (hc : cnt n ≤ 4000) (hz : s.size ≤ 1048576) : parseF s = (n, 0, 0) := by
  obtain ⟨z, h1, h2, h3⟩ := reads_all hb (cnt n) n (Nat.le_refl _) s 0 pre post 0 0 61 hs hp (by have := hq.nd (r := []) (fun c hc => by cases hc); rwa [List.append_nil] at this) (Nat.zero_le _) hm rfl (by omega)
  have h4 : blanksF s (z : Int) = ((z + post.length : Nat) : Int) := blanks_at (r := []) (by rw [h2, List.append_nil]) hq (fun c hc => by cases hc)
  have h5 := congrArg List.length h2
  rw [List.length_drop, bytesOf_length] at h5
  have h6 : nodeF s 61 0 0 0 = .ok (n, (z : Int), ((0 + cnt n : Nat) : Int), 0) := h1
  unfold parseF
  rw [if_neg (by omega), h6]
  simp only
  rw [h4, if_neg (by omega)]
end Go.Proofs.YtodnggilomanbaaGreatDoor.Pure
