/- A trace beside a row of its own; what Sum and First of the reference come to. -/
import Derived.Test.YtcjphioimmgbfaaTrF
namespace Go.Proofs.Ytcjphioimmgbfaa.Tra
open Go.RowKit Go.Proofs.YtcjphioimmgbfaaW.PrintWords Go.Proofs.YtcjphioimmgbfaaW.PrintLast Go.Proofs.YtcjphioimmgbfaaW.PrintMore Go.Proofs.Ytcjphioimmgbfaa.PTraceActs
set_option linter.unusedVariables false
set_option linter.unusedSimpArgs false

/-- No block of the trace's. -/
def Off (tb : Nat) (v : Value) (k : Nat) : Prop := k ≠ tb ∧ some k ≠ v.ownBlock
section
variable {w w1 : World} {B tb : Nat} {v v1 u : Value} {l l' xs : List S24}
theorem R_put (h : Kd.R k24 24 w B (Off tb v) u xs) (hO : OnlyT w w1 (some tb) v.ownBlock) (hA : AtOr w v v1) : Kd.R k24 24 w1 B (Off tb v1) u xs := by
  refine Kd.R_mono (Kd.R_step (Kd.R_bound h) ?_) ?_
  · rintro k ⟨⟨h1, h2⟩, _, hlt, _⟩ _
    exact hO.block k hlt (fun e => h1 (by injection e)) h2
  · rintro k ⟨⟨h1, h2⟩, _, hlt, _⟩
    refine ⟨h1, ?_⟩
    rcases hA with e | ⟨b, e, hb⟩
    · rw [e]; exact h2
    · rw [e]; intro he; injection he with he; omega
theorem Tr_grown {row : Option Nat} (h : TrO w B (some tb) v l) (hg : w.grownBy w1 row) (hne : ∀ k, row = some k → Off tb v k) : TrO w1 B (some tb) v l := by
  refine TrO.other (t' := none) (v' := v) (row := row) h ⟨hg.os, hg.tape, hg.output, hg.size, fun k hk _ h2 => hg.block k hk h2⟩ ?_ ?_
  · rintro tb' he
    injection he with he
    subst he
    exact ⟨by simp, fun e => (hne _ e).1 rfl⟩
  · intro k hk
    exact ⟨by simp, fun e => (hne _ e).2 hk.symm⟩
theorem off_new (h : TrO w B (some tb) v l) (k : Nat) (hk : w.heap.size ≤ k) : Off tb v k := by
  refine ⟨?_, ?_⟩
  · rintro rfl
    have := blk_lt h.2.1
    omega
  · intro he
    obtain ⟨inner, hown⟩ := Kd.R_own h.2.2
    have := own_lt hown _ he.symm
    omega
end

theorem sum_l1 (l : List S24) (n i s a b c : Int) (k : Nat) : sconceref02_Sum.l1 (k + 4) s l n i [a, b, c] 3 0 = sconceref02_Sum.l0 k (mix3 s a b c) l n (wrap64 (i + 1)) := by
  have w1 : wrap64 (0 + 1) = 1 := by unfold wrap64; omega
  have w2 : wrap64 (1 + 1) = 2 := by unfold wrap64; omega
  have w3 : wrap64 (2 + 1) = 3 := by unfold wrap64; omega
  rw [sconceref02_Sum.l1, if_pos (by omega), if_pos (by omega), if_pos (by simp), w1, sconceref02_Sum.l1, if_pos (by omega), if_pos (by omega), if_pos (by simp), w2, sconceref02_Sum.l1, if_pos (by omega), if_pos (by omega), if_pos (by simp), w3, sconceref02_Sum.l1, if_neg (by omega)]
  rfl
theorem sum_loop (l : List S24) (hb : l.length ≤ 1099511627776) : ∀ (d i : Nat) (s : Int), i + d = l.length → sconceref02_Sum.l0 (5 * d + 1) s l (l.length : Int) (i : Int) = some ((l.drop i).foldl mixE s)
  | 0, i, s, hi => by
    simp only [sconceref02_Sum.l0]
    rw [if_neg (by omega), List.drop_eq_nil_of_le (by omega)]
    rfl
  | d + 1, i, s, hi => by
    have ih := sum_loop l hb d (i + 1) (mixE s (rd_T24 l i)) (by omega)
    have hd : l.drop i = rd_T24 l i :: l.drop (i + 1) := by
      rw [List.drop_eq_getElem_cons (by omega)]
      congr 1
      simp [rd_T24, List.getD, show i < l.length by omega]
    rw [show 5 * (d + 1) + 1 = (5 * d + 1 + 4) + 1 by omega, sconceref02_Sum.l0, if_pos (by omega), if_pos (by omega), if_pos (by omega), Option.bind_some]
    show sconceref02_Sum.l1 (5 * d + 1 + 4) s l (l.length : Int) (i : Int) [(rd_T24 l i).f0, (rd_T24 l i).f1, (rd_T24 l i).f2] 3 0 = _
    rw [sum_l1, wrap_succ i (by omega), hd, List.foldl_cons]
    exact ih
theorem sum_spec (l : List S24) (hb : l.length ≤ 1099511627776) : sconceref02_Sum.f (5 * l.length + 1) l = some (sumE l) := by
  have := sum_loop l hb l.length 0 beg (by omega)
  rw [List.drop_zero] at this
  exact this
theorem sumR (A : Option Addr) (c : Nat) (l : List S24) (w : World) (hr : Kd.C k24 w A l.length l) (hc : l.length ≤ c) (hb : l.length ≤ 1099511627776) :
    Calls Try.prog 21 #[.slice A l.length c] w fun e w' => e = .returned (.int .u64 (sumE l)) ∧ Below w.heap.size w w' :=
  sconceref02_Sum.calls _ A c l _ w hr hc (sum_spec l hb)
theorem firstL (A : Option Addr) (c : Nat) (l : List S24) (w : World) (hc : l.length ≤ c) (hb : l.length ≤ 1099511627776) :
    Calls Try.prog 19 #[.slice A l.length c] w fun e w' => e = .returned (.slice A (l.take 1000).length c) ∧ w = w' := by
  have hu22 := Try.underlying22
  have hlen : (l.take 1000).length = min 1000 l.length := List.length_take
  rw [hlen]
  have hcap : (l.length : Int) ≤ c := by omega
  generalize l.length = n at *
  clear hlen
  by_cases h : n ≤ 1000
  · rw [Nat.min_eq_right h]
    have h' : (n : Int) ≤ 1000 := by omega
    go_enter Try.func19, Try.ntmps19
    go_wp2
    go_ret
    exact ⟨rfl, rfl⟩
  · rw [Nat.min_eq_left (by omega)]
    have h' : (1000 : Int) < n := by omega
    go_enter Try.func19, Try.ntmps19
    go_wp2
    go_ret
    exact ⟨rfl, rfl⟩
theorem firstL' (A : Option Addr) (c : Nat) (l : List S24) (w : World) (hc : l.length ≤ c) (hb : l.length ≤ 1099511627776) :
    Calls Try.prog 19 #[.slice A l.length c] w fun e w' => ∃ ys : List S24, e = .returned (.slice A ys.length c) ∧ Aside0 (ys = l.take 1000) ∧ w = w' :=
  (firstL A c l w hc hb).mono fun e w' ⟨h1, h2⟩ => ⟨_, h1, ⟨rfl⟩, h2⟩
theorem C_take' {w : World} {A : Option Addr} {xs : List S24} (h : Kd.C k24 w A xs.length xs) (n : Nat) : Kd.C k24 w A (xs.take n).length (xs.take n) := by
  by_cases hn : n ≤ xs.length
  · exact Kd.C_take h hn
  · rw [List.take_of_length_le (by omega)]
    exact h
end Go.Proofs.Ytcjphioimmgbfaa.Tra
