/- A region that draws its order, within a round of a range over a function: by the plain region's steps. -/
import Derived.Test.YtjpibgehhgaopaaGreatWLast
import Derived.OrdersIn
import Derived.TacticsIn
import Derived.Test.YtjpibgehhgaopaaGreatTgRf
namespace Go.Proofs.YtjpibgehhgaopaaGreat.Rf
open Go Go.Proofs.YtjpibgehhgaopaaGreatW.PrintLast
set_option linter.unusedVariables false
set_option linter.unusedSimpArgs false
section
variable {P : Program} {ops : Array Oper} {Q : Exit → Act → World → Prop} {md : Region.Mode} {S : World → Prop} {ds : List Nat}

theorem uponIn_of (l n : Nat) (o : Oper) (a : Act) (K K' : Act → World → Prop) (hK : ∀ a w, K a w → K' a w) (r : Result Next)
    (h : o.upon P a K (fun e a w => e = .normal ∧ Q .normal a w) r) : o.uponIn (Fence.wide.inRound l) n P a K' Q r := by
  cases r with
  | ok x w' =>
    cases x with
    | value v => exact hK _ _ h
    | skip => exact hK _ _ h
    | defer d => exact hK _ _ h
    | enter f args =>
      refine ⟨(fun h => by cases h), (callsIn_wide.2 (h.mono ?_)).inRound _⟩
      rintro e w'' he
      cases e with
      | returned v => exact hK _ _ he
      | panicked ch => exact absurd he.1 (by simp)
      | outgrown =>
        obtain ⟨a', w3, he, _⟩ := he
        cases he
    | row row args =>
      refine ⟨(fun h => by cases h), fun c cs _ => ?_⟩
      obtain ⟨v, w1, k, s⟩ := h c cs
      exact ⟨v, w1, hK _ _ k, stepsIn_wide.2 s⟩
    | _ => exact h.elim
  | halt hh w' =>
    cases hh with
    | panic v => exact absurd h.1 (by simp)
    | _ => exact h.elim
theorem anyIn_of (l n : Nat) (hd : ∀ (i : Nat) (o : Oper), ops[i]? = some o → ∀ c, o.op ≠ .defer c) : ∀ (fuel : Nat) (listed : Array Bool) (a : Act) (w : World),
    wpAny P md ops (fun e a w => e = .normal ∧ Q .normal a w) fuel listed a w → wpAnyIn (Fence.wide.inRound l) n P md ops Q fuel listed a w
  | 0, _, _, _, h => ⟨h.1, h.2.2⟩
  | fuel + 1, listed, a, w, h => by
    refine ⟨fun hr => (h.1 hr).2, fun i hi => ?_⟩
    have h2 := h.2 i hi
    unfold wpOp at h2
    unfold wpOpIn
    cases ho : ops[i]? with
    | none =>
      simp only [ho] at h2
      exact anyIn_of l n hd fuel _ _ _ h2
    | some o =>
      simp only [ho] at h2
      simp only
      by_cases hw : Region.wanted o (yielded ops a.tmps) = true
      · rw [if_pos hw] at h2 ⊢
        rcases h2 with h2 | ⟨_, a', w', h2, _⟩
        · refine ⟨fun f _ => trivial, ?_⟩
          rw [show (Fence.wide.inRound l).round = some l from rfl, Oper.semAt_some l _ o (hd i o ho)]
          exact uponIn_of l n o a _ _ (fun a w hk => anyIn_of l n hd fuel _ a w hk) _ h2
        · cases h2
      · rw [if_neg hw] at h2 ⊢
        exact ⟨fun f _ => trivial, anyIn_of l n hd fuel _ _ _ h2⟩
def noDefer (ops : Array Oper) : Bool := ops.all fun o => match o.op with | .defer _ => false | _ => true
theorem noDefer_spec (h : noDefer ops = true) : ∀ (i : Nat) (o : Oper), ops[i]? = some o → ∀ c, o.op ≠ .defer c := by
  intro i o ho c e
  unfold noDefer at h
  rw [Array.all_eq_true] at h
  obtain ⟨hi, hio⟩ := Array.getElem?_eq_some_iff.1 ho
  have := h i hi
  rw [hio, e] at this
  cases this
theorem startIn_ {id n l m : Nat} {a : Act} {w : World} (lst : Array Bool) (hm : P.follows .mixedOrders = true) (hnd : noDefer ops = true) (hn : ops.size = n) (hl : Array.replicate n false = lst) (hS : S w.drew)
    (h : S w.drew → wpAnyLast P .any ops (fun e a w => e = .normal ∧ Q .normal a w) S ds n lst a w.drew) : (Code.region id ops true).wpIn (Fence.wide.inRound l) m P Q a w := by
  subst hn
  subst hl
  exact wpIn_region_any hm (anyIn_of l m (noDefer_spec hnd) _ _ _ _ (wpAny_of_last _ _ _ _ (h hS)))
end
end Go.Proofs.YtjpibgehhgaopaaGreat.Rf
