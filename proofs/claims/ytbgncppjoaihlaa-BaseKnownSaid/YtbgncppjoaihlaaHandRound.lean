/-
  A region that draws its order, in a round of a loop over a function, under the wide fence: it may be walked as outside of a fence.
-/
import Derived.OrdersIn
import Derived.RangeFuncCalls
import Derived.RegionTactic
import Derived.Deep.RegionLaw
namespace Go.Proofs.Ytbgncppjoaihlaa.Hand

/-- What follows, where nothing is let out for want of room. -/
def NoOut (Q : Exit → Act → World → Prop) : Exit → Act → World → Prop
  | .outgrown, _, _ => False
  | e, a, w => Q e a w
theorem noOut_lets (Q : Exit → Act → World → Prop) : ¬ LetsOut (NoOut Q) := by rintro ⟨_, _, h⟩; exact h
theorem noOut_imp {Q : Exit → Act → World → Prop} (e : Exit) (a : Act) (w : World) (h : NoOut Q e a w) : Q e a w := by cases e <;> first | exact h | exact h.elim

section
variable {P : Program} {ops : Array Oper} {Q : Exit → Act → World → Prop} {l n : Nat} {md : Region.Mode}

theorem operIn_of_oper {o : Oper} {a : Act} {w : World} {K K' : Act → World → Prop} (hd : ∀ c, o.op ≠ .defer c) (hK : ∀ a w, K a w → K' a w) (h : o.wp P a w K Q) : o.wpIn (Fence.wide.inRound l) n P a w K' Q := by
  unfold Oper.wp at h
  unfold Oper.wpIn
  refine ⟨fun _ _ => trivial, ?_⟩
  rw [Oper.semAt_eq _ _ _ hd]
  generalize (execOp a.eval o).run P w = r at *
  cases r with
  | ok x w' =>
    cases x <;> simp only [Oper.upon, Oper.uponIn] at h ⊢
    case value u => exact hK _ _ h
    case skip => exact hK _ _ h
    case defer d => exact hK _ _ h
    case enter f args =>
      refine ⟨fun hh => (absurd hh (by simp [Fence.wide])), ?_⟩
      refine CallsIn.inRound l (callsIn_wide.2 (h.mono fun e w'' he => ?_))
      cases e <;> first | exact hK _ _ he | exact he
    case row row args =>
      refine ⟨fun hh => (absurd hh (by simp [Fence.wide])), fun c cs _ => ?_⟩
      obtain ⟨v, w'', r, s⟩ := h c cs
      exact ⟨v, w'', hK _ _ r, stepsIn_wide.2 s⟩
  | halt x w' => cases x <;> simp only [Oper.upon, Oper.uponIn] at h ⊢ <;> exact h

theorem opIn_of_op {i : Nat} {a : Act} {w : World} {K K' : Act → World → Prop} (hd : ∀ (j : Nat) (o : Oper) c, ops[j]? = some o → o.op ≠ .defer c) (hK : ∀ a w, K a w → K' a w) (hQ : ¬ LetsOut Q) (h : wpOp P ops Q i K a w) : wpOpIn (Fence.wide.inRound l) n P ops Q i K' a w := by
  unfold wpOp at h
  unfold wpOpIn
  cases ho : ops[i]? with
  | none => rw [ho] at h; exact hK _ _ h
  | some o =>
    rw [ho] at h
    simp only at h ⊢
    by_cases hw : Region.wanted o (yielded ops a.tmps) = true
    · simp only [hw, if_true] at h ⊢
      exact operIn_of_oper (hd i o · ho) hK (h.resolve_right (fun hh => hQ hh.2))
    · simp only [hw] at h ⊢
      exact ⟨fun _ _ => trivial, hK _ _ h⟩

theorem anyIn_of_any (hd : ∀ (j : Nat) (o : Oper) c, ops[j]? = some o → o.op ≠ .defer c) (hQ : ¬ LetsOut Q) : ∀ (fuel : Nat) (listed : Array Bool) (a : Act) (w : World), wpAny P md ops Q fuel listed a w → wpAnyIn (Fence.wide.inRound l) n P md ops Q fuel listed a w := by
  intro fuel
  induction fuel with
  | zero => exact fun _ _ _ h => h
  | succ fuel ih => exact fun listed a w h => ⟨h.1, fun i hi => opIn_of_op hd (fun a w => ih _ a w) hQ (h.2 i hi)⟩

theorem opIn_imp {Q' : Exit → Act → World → Prop} {F : Fence} (hq : ∀ e a w, Q e a w → Q' e a w) {i : Nat} {K K' : Act → World → Prop} (hK : ∀ a w, K a w → K' a w) {a : Act} {w : World} (h : wpOpIn F n P ops Q i K a w) : wpOpIn F n P ops Q' i K' a w := by
  have lets : LetsOut Q → LetsOut Q' := fun ⟨a, w, h⟩ => ⟨a, w, hq _ _ _ h⟩
  unfold wpOpIn at *
  cases ho : ops[i]? with
  | none => rw [ho] at h; exact hK _ _ h
  | some o =>
    rw [ho] at h
    simp only at h ⊢
    by_cases hw : Region.wanted o (yielded ops a.tmps) = true
    · simp only [hw, if_true] at h ⊢
      unfold Oper.wpIn at *
      refine ⟨h.1, ?_⟩
      have h := h.2
      generalize (o.semAt F.round a.eval).run P w = r at *
      cases r with
      | ok x w' =>
        cases x <;> simp only [Oper.uponIn] at h ⊢
        case value u => exact hK _ _ h
        case skip => exact hK _ _ h
        case defer d => exact hK _ _ h
        case enter f args =>
          refine ⟨h.1, h.2.mono fun e w'' he => ?_⟩
          cases e <;> first | exact hK _ _ he | exact hq _ _ _ he | exact lets he
        case row row args => exact ⟨h.1, h.2.mono fun _ _ he => hK _ _ he⟩
        case round l f tmps assign body =>
          refine ⟨h.1, h.2.mono fun e w'' he => ?_⟩
          cases e <;> first | exact hK _ _ he | exact hq _ _ _ he | exact lets he
      | halt x w' => cases x <;> simp only [Oper.uponIn] at h ⊢ <;> first | exact hq _ _ _ h | exact h
    · simp only [hw] at h ⊢
      exact ⟨h.1, hK _ _ h.2⟩

theorem anyIn_imp {Q' : Exit → Act → World → Prop} {F : Fence} (hq : ∀ e a w, Q e a w → Q' e a w) : ∀ (fuel : Nat) (listed : Array Bool) (a : Act) (w : World), wpAnyIn F n P md ops Q fuel listed a w → wpAnyIn F n P md ops Q' fuel listed a w := by
  intro fuel
  induction fuel with
  | zero => exact fun _ _ _ h => ⟨h.1, hq _ _ _ h.2⟩
  | succ fuel ih => exact fun listed a w h => ⟨fun h0 => hq _ _ _ (h.1 h0), fun i hi => opIn_imp hq (fun a w => ih _ a w) (h.2 i hi)⟩

/-- No operation of a region is a 'defer'. -/
def noDefer (ops : Array Oper) : Bool := ops.all fun o => match o.op with | .defer _ => false | _ => true
theorem noDefer_spec (h : noDefer ops = true) (j : Nat) (o : Oper) (c : Call) (ho : ops[j]? = some o) : o.op ≠ .defer c := by
  intro he
  have := Array.all_eq_true_iff_forall_mem.1 h o (Array.mem_of_getElem? ho)
  rw [he] at this
  cases this

theorem wpIn_region_round {id : Nat} {a : Act} {w : World} (hm : P.follows .mixedOrders = true) (hnd : noDefer ops = true) (h : wpAny P .any ops (NoOut Q) ops.size (Array.replicate ops.size false) a w.drew) :
    (Code.region id ops true).wpIn (Fence.wide.inRound l) n P Q a w :=
  wpIn_region_any hm (anyIn_imp noOut_imp _ _ _ _ (anyIn_of_any (noDefer_spec hnd) (noOut_lets Q) _ _ _ _ h))
end
end Go.Proofs.Ytbgncppjoaihlaa.Hand
