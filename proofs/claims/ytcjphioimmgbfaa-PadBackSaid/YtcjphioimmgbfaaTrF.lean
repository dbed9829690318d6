/- Plain facts on the laws' helpers (clean, same, Sum, First): what their printed Lean functions come to; the contracts in those words. -/
import Derived.Test.YtcjphioimmgbfaaTrE
namespace Go.Proofs.Ytcjphioimmgbfaa.Tra
open Go.RowKit Go.Proofs.YtcjphioimmgbfaaW.PrintWords Go.Proofs.YtcjphioimmgbfaaW.PrintLast Go.Proofs.YtcjphioimmgbfaaW.PrintMore Go.Proofs.Ytcjphioimmgbfaa.PTraceActs
set_option linter.unusedVariables false
set_option linter.unusedSimpArgs false

theorem clean_spec (e : S24) : sconcelaw02_clean.f e.f0 e.f1 e.f2 = some ((cleanE e).f0, (cleanE e).f1, (cleanE e).f2) := by
  unfold sconcelaw02_clean.f cleanE
  by_cases h1 : e.f0 = 1
  · simp [h1]
  · by_cases h2 : e.f0 = 2
    · by_cases h3 : e.f1 = 1 <;> simp [h2, h3]
    · simp [h1, h2]
theorem cleanL (e : S24) (w : World) : Calls Try.prog 17 #[evV e] w fun x w' => x = .returned (evV (cleanE e)) ∧ Below w.heap.size w w' :=
  sconcelaw02_clean.calls _ _ _ _ _ _ w (clean_spec e)

theorem wrap_succ (i : Nat) (h : i < 1099511627777) : wrap64 ((i : Int) + 1) = ((i + 1 : Nat) : Int) := by unfold wrap64; omega

theorem same_loop (l0 l1 : List S24) (hl : l0.length = l1.length) (hb : l0.length ≤ 1099511627776) : ∀ d i : Nat, i + d = l0.length → (∀ j : Nat, j < i → rd_T24 l0 j = rd_T24 l1 j) →
    ∃ r, sconcelaw02_same.l0 (d + 1) l0 l1 (l0.length : Int) (i : Int) = some r ∧ (r = true ↔ l0 = l1)
  | 0, i, hi, hp => ⟨true, by simp only [sconcelaw02_same.l0]; rw [if_neg (by omega)], ⟨fun _ => ext_take _ _ hl (fun j hj => hp j (by omega)), fun _ => rfl⟩⟩
  | d + 1, i, hi, hp => by
    by_cases hq : rd_T24 l0 i = rd_T24 l1 i
    · obtain ⟨r, h1, h2⟩ := same_loop l0 l1 hl hb d (i + 1) (by omega) (fun j hj => by
        by_cases hji : j < i
        · exact hp j hji
        · obtain rfl : j = i := by omega
          exact hq)
      refine ⟨r, ?_, h2⟩
      rw [show d + 1 + 1 = (d + 1) + 1 from rfl]
      simp only [sconcelaw02_same.l0]
      rw [if_pos (by omega), if_pos (by omega), if_pos (by omega), if_pos (by omega), if_neg (by rw [hq]; simp), wrap_succ i (by omega)]
      simpa only [sconcelaw02_same.l0] using h1
    · refine ⟨false, ?_, ⟨(fun h => by cases h), fun h => absurd (by rw [h]) hq⟩⟩
      simp only [sconcelaw02_same.l0]
      rw [if_pos (by omega), if_pos (by omega), if_pos (by omega), if_pos (by omega), if_pos]
      cases hh : (!(((rd_T24 l0 i).f0) == ((rd_T24 l1 i).f0)) || (!(((rd_T24 l0 i).f1) == ((rd_T24 l1 i).f1)) || (!(((rd_T24 l0 i).f2) == ((rd_T24 l1 i).f2))))) with
      | true => rfl
      | false =>
        simp only [Bool.or_eq_false_iff, Bool.not_eq_false', beq_iff_eq] at hh
        exact absurd (S24.ext_ hh.1 hh.2.1 hh.2.2) hq
theorem same_spec (l0 l1 : List S24) (hb : l0.length ≤ 1099511627776) : ∃ k r, sconcelaw02_same.f k l0 l1 = some r ∧ (r = true ↔ l0 = l1) := by
  by_cases hl : l0.length = l1.length
  · obtain ⟨r, h1, h2⟩ := same_loop l0 l1 hl hb l0.length 0 (by omega) (fun j hj => absurd hj (by omega))
    exact ⟨l0.length + 1, r, by unfold sconcelaw02_same.f; rw [if_pos (by omega)]; exact h1, h2⟩
  · exact ⟨0, false, by unfold sconcelaw02_same.f; rw [if_neg (by omega)], ⟨(fun h => by cases h), fun h => absurd (by rw [h]) hl⟩⟩
theorem sameL (A0 : Option Addr) (c0 : Nat) (l0 : List S24) (A1 : Option Addr) (c1 : Nat) (l1 : List S24) (w : World) (hr0 : Kd.C k24 w A0 l0.length l0) (hc0 : l0.length ≤ c0) (hr1 : Kd.C k24 w A1 l1.length l1) (hc1 : l1.length ≤ c1) (hb : l0.length ≤ 1099511627776) :
    Calls Try.prog 16 #[.slice A0 l0.length c0, .slice A1 l1.length c1] w fun e w' => ∃ r, e = .returned (.bool r) ∧ Aside0 (r = true ↔ l0 = l1) ∧ Drawn0 w w' := by
  obtain ⟨k, r, h1, h2⟩ := same_spec l0 l1 hb
  exact (sconcelaw02_same.calls k A0 c0 l0 A1 c1 l1 r w hr0 hc0 hr1 hc1 h1).mono fun e w' ⟨he, hd⟩ => ⟨r, he, ⟨h2⟩, hd⟩
/-- Alike lists: it says true. -/
theorem sameTrue (A0 : Option Addr) (c0 : Nat) (l0 : List S24) (A1 : Option Addr) (c1 : Nat) (l1 : List S24) (w : World) (hr0 : Kd.C k24 w A0 l0.length l0) (hc0 : l0.length ≤ c0) (hr1 : Kd.C k24 w A1 l1.length l1) (hc1 : l1.length ≤ c1) (hb : l0.length ≤ 1099511627776) (he : l0 = l1) :
    Calls Try.prog 16 #[.slice A0 l0.length c0, .slice A1 l1.length c1] w fun e w' => e = .returned (.bool true) ∧ Drawn0 w w' :=
  (sameL A0 c0 l0 A1 c1 l1 w hr0 hc0 hr1 hc1 hb).mono fun e w' ⟨r, h1, h2, h3⟩ => ⟨by rw [h1, h2.out.2 he], h3⟩

theorem manyS (B tb : Nat) (v : Value) (l : List S24) (w : World) (h : TrO w B (some tb) v l) : Calls Try.prog 15 #[.pointer (some ⟨tb, 0, none⟩)] w fun x w' => x = .returned (.int .i64 (l.length : Int)) ∧ w = w' :=
  manyO B (some tb) v l w h (fun e => by cases e)
theorem manyS' (B tb : Nat) (v : Value) (l : List S24) (n : Int) (w : World) (h : TrO w B (some tb) v l) (hn : (l.length : Int) = n) : Calls Try.prog 15 #[.pointer (some ⟨tb, 0, none⟩)] w fun x w' => x = .returned (.int .i64 n) ∧ w = w' := by
  subst hn
  exact manyS B tb v l w h
theorem sumS (B tb : Nat) (v : Value) (l : List S24) (w : World) (h : TrO w B (some tb) v l) : Calls Try.prog 20 #[.pointer (some ⟨tb, 0, none⟩)] w fun x w' => x = .returned (.int .u64 (sumE l)) ∧ w = w' :=
  sumO B (some tb) v l w h (fun e => by cases e)
theorem eventsS (B tb : Nat) (v : Value) (l : List S24) (w : World) (h : TrO w B (some tb) v l) : Calls Try.prog 14 #[.pointer (some ⟨tb, 0, none⟩)] w fun x w' => ∃ (xs : List S24) (A1 : Option Addr) (c1 : Nat), x = .returned (.slice A1 xs.length c1) ∧ Aside0 (xs = l.take 1000) ∧ Aside0 (Kd.R k24 24 w' w.heap.size (fun _ => True) (.slice A1 xs.length c1) xs) ∧ Aside0 (Kd.C k24 w' A1 xs.length xs) ∧ Aside0 (Below w.heap.size w w') :=
  eventsO' B (some tb) v l w h (fun e => by cases e)
/-- A row made behind a world stays where a trace that was there writes to itself. -/
theorem R_other {w0 w w1 : World} {B : Nat} {t : Option Nat} {v u : Value} {l l' : List S24} {xs : List S24} {ok : Nat → Prop} (h : Kd.R k24 24 w w0.heap.size ok u xs) (hT : TrO w0 B t v l) (hP : PutO w w1 B t v l') : Kd.R k24 24 w1 w0.heap.size ok u xs := by
  obtain ⟨v1, _, hO, _⟩ := hP
  refine Kd.R_mono (Kd.R_step (Kd.R_bound h) ?_) (fun k hk => hk.1)
  rintro k ⟨_, hb, hlt, _⟩ _
  refine hO.block k hlt ?_ ?_
  · rintro rfl
    have := blk_lt hT.2.1
    omega
  · intro he
    rcases t with _ | tb
    · obtain rfl : v = .slice none 0 0 := hT
      simp [Value.ownBlock] at he
    · obtain ⟨inner, hown⟩ := Kd.R_own hT.2.2
      have := own_lt hown _ he.symm
      omega
theorem C_of_R {w : World} {base : Nat} {ok : Nat → Prop} {A : Option Addr} {n c : Nat} {xs : List S24} (h : Kd.R k24 24 w base ok (.slice A n c) xs) : n = xs.length ∧ xs.length ≤ c ∧ Kd.C k24 w A xs.length xs := by
  obtain ⟨A1, c1, he, hlc, hC⟩ := Kd.R_reads h
  injection he with h1 h2 h3
  subst h1 h2 h3
  exact ⟨rfl, hlc, hC⟩
theorem rd_snoc (xs : List S24) (e : S24) : rd_T24 (xs ++ [e]) (xs.length : Int) = e := by
  unfold rd_T24
  rw [Int.toNat_natCast, List.getD_eq_getElem?_getD, List.getElem?_append_right (Nat.le_refl _)]
  simp
theorem C_left {w : World} {A : Option Addr} {xs ys : List S24} (h : Kd.C k24 w A (xs ++ ys).length (xs ++ ys)) : Kd.C k24 w A xs.length xs := by
  have := Kd.C_take h (m := xs.length) (by simp)
  rwa [List.take_left] at this

theorem take_map_snoc (l : List S24) (k : Nat) (hk : k < l.length) : (l.take (k + 1)).map cleanE = (l.take k).map cleanE ++ [cleanE (rd_T24 l k)] := by
  have h : rd_T24 l k = l[k] := by simp [rd_T24, List.getD, hk]
  rw [List.take_succ_eq_append_getElem hk, List.map_append, h]
  rfl
end Go.Proofs.Ytcjphioimmgbfaa.Tra
