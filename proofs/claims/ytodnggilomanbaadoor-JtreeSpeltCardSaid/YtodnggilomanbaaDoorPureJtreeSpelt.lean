/-
  JtreeSpelt: it answers true. No walk.
-/
import Derived.Test.YtodnggilomanbaaDoorLSpelt
import Derived.Test.YtodnggilomanbaaDoorPlainSpelt
namespace Go.Proofs.YtodnggilomanbaaDoor.Pure
open Go.RowKit Go.Lib Go.Proofs.YtodnggilomanbaaDoor.PAll Go.Proofs.YtodnggilomanbaaDoorW.PrintWords Go.Proofs.YtodnggilomanbaaDoorW.PrintLast Go.Proofs.YtodnggilomanbaaDoorW.PrintMore Go.Proofs.YtodnggilomanbaaDoor.Hand
set_option linter.unusedVariables false
set_option linter.unusedSimpArgs false

set_option maxRecDepth 1000000 in
theorem works_at : signetrylaw14_works.f 60 = some true := by decide +kernel
theorem bring_at (x n : Int) (h0 : 0 < n) (h1 : n ≤ 9223372036854775807) : ∃ v, signetryref00_Bring.f x n = some v ∧ 0 ≤ v ∧ v < n := by
  unfold signetryref00_Bring.f
  rw [if_neg (by omega)]
  have hlt := Int.tmod_lt_of_pos x h0
  have hgt : -n < Int.tmod x n := by
    have := Int.lt_tmod_of_pos x h0
    omega
  by_cases h : Int.tmod x n < 0
  · rw [if_pos h]
    refine ⟨_, rfl, ?_⟩
    have : wrap64 (Int.tmod x n + n) = Int.tmod x n + n := by unfold wrap64; omega
    rw [this]
    omega
  · rw [if_neg h]
    exact ⟨_, rfl, by omega, hlt⟩
/-- What stands so far. -/
structure Inv (i : Nat) (s : ByteArray) (want : List Int) : Prop where
  ex : ∃ P rs, bytesOf s = 34 :: P ∧ Sps P want ∧ (∀ r ∈ rs, isRn r = true) ∧ want = encs8 rs
  sz : s.size ≤ 1 + 12 * i
  wl : want.length ≤ 4 * i
theorem Inv.step {i : Nat} {s t : ByteArray} {want Q : List Int} {n : Int} (h : Inv i s want) (hn : isRn n = true) (hQ : Sps Q (encodeRuneZ n)) (ht : bytesOf t = bytesOf s ++ Q) (hl : Q.length ≤ 12) : Inv (i + 1) t (want ++ encodeRuneZ n) := by
  obtain ⟨P, rs, h1, h2, h3, h4⟩ := h.ex
  refine ⟨⟨P ++ Q, rs ++ [n], by rw [ht, h1]; rfl, h2.app hQ, fun r hr => ?_, ?_⟩, ?_, ?_⟩
  · rcases List.mem_append.1 hr with hr | hr
    · exact h3 r hr
    · rw [List.mem_singleton] at hr
      rw [hr]; exact hn
  · rw [h4]
    simp [encs8]
  · rw [size_of ht, List.length_append, bytesOf_length]
    have := h.sz
    omega
  · rw [List.length_append]
    have := h.wl
    have := (encodeRuneZ_length n).2
    omega
theorem enc_by (n : Int) : isBy (encodeRuneZ n) = true := by
  refine List.all_eq_true.2 fun x hx => ?_
  have := encodeRuneZ_byte n x hx
  simp only [Bool.and_eq_true, decide_eq_true_eq]
  omega
theorem rune_at {n : Int} (h : isRn n = true) : text_Rune.f ([] : List Int) n = some (encodeRuneZ n, 0) := by
  unfold text_Rune.f
  rw [if_pos h, if_pos (by simp)]
  rfl
theorem spelt_end (L l1 : List Int) {i : Nat} {s : ByteArray} {want : List Int} (h : Inv i s want) (hi : i ≤ 40) (hd : (i : Int) < (L.length : Int) → decide ((i : Int) < 40) = false) : signetrylaw14_JtreeSpelt.l0 62 L l1 s want (i : Int) = some true := by
  obtain ⟨P, rs, h1, h2, h3, h4⟩ := h.ex
  have hsz := h.sz
  have hj : signetrylaw14_JtreeSpelt.j1 61 L l1 s want (i : Int) false = some true := by
    rw [signetrylaw14_JtreeSpelt.j1, if_neg (by decide), if_pos (by omega)]
    have e1 : (⟨#[34]⟩ : ByteArray).size = 1 := rfl
    have hp := parse_str (s := s ++ (⟨#[34]⟩ : ByteArray)) h2 (by rw [bytesOf_app, h1]; rfl) (by rw [h4]; exact valid_enc rs h3) (by rw [ByteArray.size_append, e1]; omega)
    unfold jtree_Parse.f
    rw [hp]
    simp only [Option.bind_some]
    simp only [if_true, works_at]
    rfl
  rw [signetrylaw14_JtreeSpelt.l0]
  by_cases hc : (i : Int) < (L.length : Int)
  · rw [if_pos hc, hd hc]
    exact hj
  · rw [if_neg hc]
    exact hj
theorem spelt_j4 (L l1 : List Int) {i : Nat} {s : ByteArray} {want : List Int} {n : Int} {dg : ByteArray} {x77 : Bool} {k : Nat} (h : Inv i s want) (hi : i < 40) (hn : isRn n = true) (hdg : dg = lowT ∨ dg = uppT) (hx : x77 = true → 32 ≤ n ∧ n ≠ 34 ∧ n ≠ 92)
    (ih : ∀ t : ByteArray, Inv (i + 1) t (want ++ encodeRuneZ n) → signetrylaw14_JtreeSpelt.l0 k L l1 t (want ++ encodeRuneZ n) ((i + 1 : Nat) : Int) = some true) :
    signetrylaw14_JtreeSpelt.j4 (k + 1) L l1 s (want ++ encodeRuneZ n) (i : Int) n (encodeRuneZ n) dg x77 = some true := by
  have hsz := h.sz
  have hw : wrap64 ((i : Int) + 1) = ((i + 1 : Nat) : Int) := by unfold wrap64; omega
  have hr := isRn_of hn
  have hel := encodeRuneZ_length n
  rw [signetrylaw14_JtreeSpelt.j4, hw]
  cases x77 with
  | true =>
    obtain ⟨h32, h34, h92⟩ := hx rfl
    have hb := bytesOf_nums (enc_by n)
    have hbs := size_of hb
    rw [if_pos rfl, if_pos (by omega)]
    exact ih _ (h.step hn (sps_raw _ (enc_raw hn h32 h34 h92)) (by rw [bytesOf_app, hb]) (by omega))
  | false =>
    rw [if_neg (by decide)]
    by_cases hlt : n < 65536
    · rw [if_pos hlt]
      obtain ⟨t, ht, htb, hts⟩ := four_at hdg (n := n) (by omega) hlt
      obtain ⟨a, b, c, d, hD, hdd, hv⟩ := hv4_at hdg (n := n) (by omega) hlt
      rw [ht, Option.bind_some, if_pos (by omega)]
      rw [hD] at htb
      exact ih _ (h.step hn (Sps.one (pc_u hdd hv hn)) (by rw [bytesOf_app, htb]) (by simp))
    · rw [if_neg hlt]
      have e1 : wrap64 (n - 65536) = n - 65536 := by unfold wrap64; omega
      have e2 : wrap64 (Int.tdiv (n - 65536) 1024) = (n - 65536) / 1024 := by rw [Int.tdiv_eq_ediv_of_nonneg (by omega)]; unfold wrap64; omega
      have e3 : wrap64 (55296 + (n - 65536) / 1024) = 55296 + (n - 65536) / 1024 := by unfold wrap64; omega
      have e4 : Int.tmod (n - 65536) 1024 = (n - 65536) % 1024 := Int.tmod_eq_emod_of_nonneg (by omega)
      have e5 : wrap64 (56320 + (n - 65536) % 1024) = 56320 + (n - 65536) % 1024 := by unfold wrap64; omega
      rw [e1, e2, e3, e4, e5]
      obtain ⟨t, ht, htb, hts⟩ := four_at hdg (n := 55296 + (n - 65536) / 1024) (by omega) (by omega)
      obtain ⟨a, b, c, d, hD, hdd, hv⟩ := hv4_at hdg (n := 55296 + (n - 65536) / 1024) (by omega) (by omega)
      obtain ⟨t', ht', htb', hts'⟩ := four_at hdg (n := 56320 + (n - 65536) % 1024) (by omega) (by omega)
      obtain ⟨a', b', c', d', hD', hdd', hv'⟩ := hv4_at hdg (n := 56320 + (n - 65536) % 1024) (by omega) (by omega)
      rw [ht, Option.bind_some, if_pos (by omega), ht', Option.bind_some, if_pos (by rw [ByteArray.size_append]; omega)]
      rw [hD] at htb
      rw [hD'] at htb'
      exact ih _ (h.step hn (Sps.one (pc_pair (r := n) hdd hdd' hv hv' (by omega) (by omega) (by omega) (by omega) (by omega))) (by rw [bytesOf_app, bytesOf_app, htb, htb', List.append_assoc]) (by simp))
theorem spelt_loop (L l1 : List Int) : ∀ (m i : Nat) (s : ByteArray) (want : List Int), i + m = 40 → Inv i s want → i ≤ L.length → signetrylaw14_JtreeSpelt.l0 (5 * m + 62) L l1 s want (i : Int) = some true
  | 0, i, s, want, hm, h, hl => spelt_end L l1 h (by omega) fun _ => decide_eq_false (by omega)
  | m + 1, i, s, want, hm, h, hl => by
    by_cases hc : i < L.length
    · -- the next rune
      obtain ⟨v, hv, v0, v1⟩ := bring_at (rd L (i : Int)) 1112064 (by omega) (by omega)
      obtain ⟨n, hn⟩ : ∃ n, (if v ≥ 55296 then wrap64 (v + 2048) else v) = n := ⟨_, rfl⟩
      have hrn : isRn n = true := by
        have hw : wrap64 (v + 2048) = v + 2048 := by unfold wrap64; omega
        rw [hw] at hn
        unfold isRn
        simp only [Bool.or_eq_true, decide_eq_true_eq]
        split at hn <;> omega
      obtain ⟨k, hk⟩ : ∃ k, 5 * m + 62 = k := ⟨_, rfl⟩
      have ih : ∀ t : ByteArray, Inv (i + 1) t (want ++ encodeRuneZ n) → signetrylaw14_JtreeSpelt.l0 k L l1 t (want ++ encodeRuneZ n) ((i + 1 : Nat) : Int) = some true := fun t ht => by
        rw [← hk]
        exact spelt_loop L l1 m (i + 1) t _ (by omega) ht hc
      have hj3 : ∀ x11 : Int, 0 ≤ x11 → x11 < 3 → signetrylaw14_JtreeSpelt.j3 (k + 2) L l1 s (want ++ encodeRuneZ n) (i : Int) n (encodeRuneZ n) x11 = some true := by
        intro x11 h0 h3
        have hm2 : Int.tmod x11 2 = x11 % 2 := Int.tmod_eq_emod_of_nonneg h0
        have hdg : rdOf ByteArray.empty ([lowT, uppT] : List ByteArray) (x11 % 2) = lowT ∨ rdOf ByteArray.empty ([lowT, uppT] : List ByteArray) (x11 % 2) = uppT := by
          have : x11 % 2 = 0 ∨ x11 % 2 = 1 := by omega
          rcases this with e | e <;> rw [e]
          · exact Or.inl rfl
          · exact Or.inr rfl
        rw [signetrylaw14_JtreeSpelt.j3, Option.bind_some, hm2, if_pos (by omega), if_pos (by show x11 % 2 < 2; omega)]
        by_cases h2 : x11 = 2
        · rw [if_pos h2]
          by_cases h32 : n ≥ 32
          · rw [if_pos h32]
            by_cases h34 : n = 34
            · rw [if_pos h34]
              exact spelt_j4 L l1 h (by omega) hrn hdg (fun e => by cases e) ih
            · rw [if_neg h34]
              exact spelt_j4 L l1 h (by omega) hrn hdg (fun e => ⟨h32, h34, by simpa using e⟩) ih
          · rw [if_neg h32]
            exact spelt_j4 L l1 h (by omega) hrn hdg (fun e => by cases e) ih
        · rw [if_neg h2]
          exact spelt_j4 L l1 h (by omega) hrn hdg (fun e => by cases e) ih
      have hj2 : signetrylaw14_JtreeSpelt.j2 (k + 3) L l1 s want (i : Int) n = some true := by
        have hwl := h.wl
        have hel := (encodeRuneZ_length n).2
        rw [signetrylaw14_JtreeSpelt.j2, rune_at hrn, Option.bind_some]
        rw [if_pos rfl, if_pos (by simp only; omega), Option.bind_some]
        by_cases hl1 : (l1.length : Int) > 0
        · have hmo : Int.tmod (i : Int) (l1.length : Int) = (i : Int) % (l1.length : Int) := Int.tmod_eq_emod_of_nonneg (by omega)
          have hb0 := Int.emod_nonneg (i : Int) (b := (l1.length : Int)) (by omega)
          have hb1 := Int.emod_lt_of_pos (i : Int) hl1
          rw [if_pos hl1, if_neg (by omega), hmo, if_pos hb0, if_pos hb1]
          obtain ⟨q, hq, q0, q1⟩ := bring_at (rd l1 ((i : Int) % (l1.length : Int))) 3 (by omega) (by omega)
          rw [hq, Option.bind_some]
          exact hj3 q q0 q1
        · rw [if_neg hl1]
          exact hj3 0 (by omega) (by omega)
      rw [show 5 * (m + 1) + 62 = k + 5 by omega]
      rw [signetrylaw14_JtreeSpelt.l0, if_pos (by omega), decide_eq_true (show (i : Int) < 40 by omega), signetrylaw14_JtreeSpelt.j1, if_pos rfl, if_pos (by omega), if_pos (by omega), hv, Option.bind_some]
      by_cases h55 : v ≥ 55296
      · rw [if_pos h55] at hn ⊢
        rw [hn]
        exact hj2
      · rw [if_neg h55] at hn ⊢
        rw [hn]
        exact hj2
    · exact leO_le (f := fun k => signetrylaw14_JtreeSpelt.l0 k L l1 s want (i : Int)) (fun k => (signetrylaw14_JtreeSpelt.mono_l k).1 _ _ _ _ _) (show 62 ≤ 5 * (m + 1) + 62 by omega) _ (spelt_end L l1 h (by omega) fun hx => absurd hx (by omega))
theorem JtreeSpelt : signetrylaw14_JtreeSpelt.Pure := by
  intro l0 l1 h1 h2 h3 h4 h5 h6
  unfold signetrylaw14_JtreeSpelt.f
  exact ⟨_, spelt_loop l0 l1 40 0 (⟨#[34]⟩ : ByteArray) [] rfl ⟨⟨[], [], rfl, .nil, (fun r hr => by cases hr), rfl⟩, by decide, by decide⟩ (Nat.zero_le _)⟩
end Go.Proofs.YtodnggilomanbaaDoor.Pure
