/-
  jtree's reader: node: what it comes to.
-/
import Derived.Test.YtodnggilomanbaaGreatDoorHandList
namespace Go.Proofs.YtodnggilomanbaaGreatDoor.Hand
open Go.RowKit Go.Lib Go.Proofs.YtodnggilomanbaaGreatDoorW.PrintWords Go.Proofs.YtodnggilomanbaaGreatDoorW.PrintLast Go.Proofs.YtodnggilomanbaaGreatDoorW.PrintMore Go.Proofs.YtodnggilomanbaaGreatDoor.PAll
set_option linter.unusedVariables false
set_option linter.unusedSimpArgs false

/-- Whether a node begins with a byte. -/
def isWay (c : Int) : Bool := decide (c = 110) || decide (c = 102) || decide (c = 116) || decide (c = 34) || decide (c = 91) || decide (c = 123) || decide (c = 45) || (decide (48 ≤ c) && decide (c ≤ 57))
def wayF (NF : NodeFn) (s : ByteArray) (c x many deep : Int) : Except (Int × Int) (S28 × Int × Int × Int) :=
  if c = 110 then leafF s [110, 117, 108, 108] 1 x many deep
  else if c = 102 then leafF s [102, 97, 108, 115, 101] 2 x many deep
  else if c = 116 then leafF s [116, 114, 117, 101] 3 x many deep
  else if c = 34 then strN s x many deep
  else if c = 91 then partsF NF s 6 93 x many deep
  else if c = 123 then partsF NF s 7 125 x many deep
  else numberF s x many deep
def nodeF (s : ByteArray) : Nat → NodeFn
  | 0 => fun _ _ _ => .error (0, 0)
  | k + 1 => fun x many deep =>
    if isWay (nowF s (blanksF s x)) = true then
      if 4000 < many + 1 ∨ 60 < deep + 1 then .error (blanksF s x, 5)
      else match wayF (nodeF s k) s (nowF s (blanksF s x)) (blanksF s x) (many + 1) (deep + 1) with
        | .error e => .error e
        | .ok (nd, z, m, d) => .ok (nd, z, m, d - 1)
    else .error (blanksF s x, 140)
theorem wordF_len {s : ByteArray} : ∀ {t : List Int} {x y : Int}, wordF s t x = .ok y → y = x + t.length
  | [], x, y, h => by
    rw [wordF] at h
    cases h
    simp
  | c :: t, x, y, h => by
    rw [wordF] at h
    split at h
    · cases h
    · split at h
      · have := wordF_len h
        rw [List.length_cons]
        omega
      · cases h
theorem leafF_goes {s : ByteArray} {t : List Int} {kind x many deep z m d : Int} {nd : S28} (ht : t ≠ []) (h0 : 0 ≤ x) (h1 : x ≤ (s.size : Int)) (h : leafF s t kind x many deep = .ok (nd, z, m, d)) : x < z ∧ z ≤ (s.size : Int) ∧ m = many ∧ d = deep := by
  unfold leafF at h
  split at h
  · rename_i y hy
    have h2 := wordF_len hy
    have h3 := wordF_bd h0 h1 hy
    have h4 : 0 < t.length := by cases t with | nil => exact absurd rfl ht | cons _ _ => simp
    cases h
    exact ⟨by omega, h3.2, rfl, rfl⟩
  · cases h
theorem strF_gt {s : ByteArray} {x y : Int} {o : ByteArray} (h0 : 0 ≤ x) (h1 : x ≤ (s.size : Int)) (h : strF s x = .ok (o, y)) : x < y := by
  unfold strF at h
  rw [word1 h1] at h
  split at h
  · cases h
  · rename_i z hz
    split at hz
    · rename_i hx
      cases hz
      have hE := endF_le (s := s) (y := x + 1) (by omega) (by omega) rfl
      split at h
      · cases h
      · cases h
      · split at h
        · split at h
          · cases h
            omega
          · cases h
        · cases h
    · cases hz
theorem strN_goes {s : ByteArray} {x many deep z m d : Int} {nd : S28} (h0 : 0 ≤ x) (h1 : x ≤ (s.size : Int)) (h : strN s x many deep = .ok (nd, z, m, d)) : x < z ∧ z ≤ (s.size : Int) ∧ m = many ∧ d = deep := by
  unfold strN at h
  split at h
  · rename_i o y hy
    have h2 := strF_gt h0 h1 hy
    have h3 := strF_bd h0 h1 hy
    cases h
    exact ⟨h2, h3.2, rfl, rfl⟩
  · cases h
theorem numberF_goes {s : ByteArray} {x many deep z m d : Int} {nd : S28} (h0 : 0 ≤ x) (h1 : x ≤ (s.size : Int)) (h : numberF s x many deep = .ok (nd, z, m, d)) : x < z ∧ z ≤ (s.size : Int) ∧ m = many ∧ d = deep := by
  unfold numberF at h
  have hb := numAt_bd h0 h1
  split at h
  · cases h
  · split at h
    · cases h
    · rename_i hn h40
      have hl := ndg_le ((bytesOf s).drop (numAt s x).toNat)
      rw [List.length_drop, bytesOf_length] at hl
      have hL : 1 ≤ numLen s (numAt s x) ∧ numAt s x + numLen s (numAt s x) ≤ (s.size : Int) := by
        unfold numLen
        split <;> omega
      cases h
      exact ⟨by omega, hL.2, rfl, rfl⟩
theorem nodeF_goes (s : ByteArray) : ∀ (k : Nat) (D : Int), Goes (nodeF s k) s D
  | 0, D => fun x many nd z m d h0 h1 hm0 hm1 h => by rw [nodeF] at h; cases h
  | k + 1, D => fun x many nd z m d h0 h1 hm0 hm1 h => by
    rw [nodeF] at h
    have hb := blanksF_bd h0 h1
    simp only at h
    split at h
    · rename_i hw
      split at h
      · cases h
      · rename_i hlim
        split at h
        · cases h
        · rename_i nd' z' m' d' hv
          have key : blanksF s x < z' ∧ z' ≤ (s.size : Int) ∧ 0 ≤ m' ∧ m' ≤ 4000 ∧ d' = D + 1 := by
            have y0 : 0 ≤ blanksF s x := by omega
            have y1 := hb.2
            unfold wayF at hv
            split at hv
            · have := leafF_goes (by simp) y0 y1 hv; omega
            · split at hv
              · have := leafF_goes (by simp) y0 y1 hv; omega
              · split at hv
                · have := leafF_goes (by simp) y0 y1 hv; omega
                · split at hv
                  · have := strN_goes y0 y1 hv; omega
                  · split at hv
                    · rename_i hc
                      have hy := nowF_lt y1 (by decide) hc
                      exact partsF_bd (nodeF_goes s k (D + 1)) (by decide) y0 hy (by omega) (by omega) hv
                    · split at hv
                      · rename_i hc
                        have hy := nowF_lt y1 (by decide) hc
                        exact partsF_bd (nodeF_goes s k (D + 1)) (by decide) y0 hy (by omega) (by omega) hv
                      · have := numberF_goes y0 y1 hv; omega
          cases h
          exact ⟨by omega, key.2.1, key.2.2.1, key.2.2.2.1, by omega⟩
    · cases h
end Go.Proofs.YtodnggilomanbaaGreatDoor.Hand
