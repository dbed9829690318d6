/- A trace's state as a list of events, nil let in; the contracts of put, Span, Branch, Index over it. -/
import Derived.Test.YtcjphioimmgbfaaTrA
namespace Go.Proofs.Ytcjphioimmgbfaa.Tra
open Go.RowKit Go.Proofs.YtcjphioimmgbfaaW.PrintWords Go.Proofs.YtcjphioimmgbfaaW.PrintLast Go.Proofs.YtcjphioimmgbfaaW.PrintMore Go.Proofs.Ytcjphioimmgbfaa.PTraceActs
set_option linter.unusedVariables false
set_option linter.unusedSimpArgs false

theorem chain {B C : Nat} {a b c : World} (h : Below B a b) (k : Below C b c) (hC : B ≤ C) : Below B a c := h.trans (k.mono hC)
def mixE (s : Int) (e : S24) : Int := mix3 s e.f0 e.f1 e.f2
def sumE (l : List S24) : Int := l.foldl mixE beg
theorem sumE_snoc (l : List S24) (e : S24) : sumE (l ++ [e]) = mix3 (sumE l) e.f0 e.f1 e.f2 := by simp [sumE, mixE]

def Tr (w : World) (B tb : Nat) (v : Value) (l : List S24) : Prop :=
  B ≤ tb ∧ w.heap[tb]? = some (.cells #[v, .int .i64 (l.length : Int), .int .u64 (sumE l)] 63 (0, 0)) ∧ Kd.R k24 24 w B (fun _ => True) v (l.take 1000)
/-- nil: nothing is there. -/
def TrO (w : World) (B : Nat) (t : Option Nat) (v : Value) (l : List S24) : Prop :=
  match t with
  | none => v = .slice none 0 0
  | some tb => Tr w B tb v l
def ptrV (t : Option Nat) : Value := .pointer (t.map fun b => ⟨b, 0, none⟩)
/-- Only the trace's own block, its row and what is new have turned. -/
structure OnlyT (w w' : World) (t row : Option Nat) : Prop where
  os : w'.os = w.os
  tape : w'.tape = w.tape
  output : w'.output = w.output
  size : w.heap.size ≤ w'.heap.size
  block : ∀ k, k < w.heap.size → some k ≠ t → some k ≠ row → w'.heap[k]? = w.heap[k]?
theorem OnlyT.refl (w : World) (t row : Option Nat) : OnlyT w w t row := ⟨rfl, rfl, rfl, Nat.le_refl _, fun _ _ _ _ => rfl⟩
theorem OnlyT.of_below {w w' : World} (h : Below w.heap.size w w') (t row : Option Nat) : OnlyT w w' t row := ⟨h.os, h.tape, h.output, h.size, fun k hk _ _ => h.block k hk⟩
theorem OnlyT.of_only {w w' : World} {tb : Nat} {row : Option Nat} (h : Only w w' tb row) : OnlyT w w' (some tb) row :=
  ⟨h.os, h.tape, h.output, h.size, fun k hk h1 h2 => h.block k hk (fun e => h1 (by rw [e])) h2⟩
def PutO (w w' : World) (B : Nat) (t : Option Nat) (v : Value) (l : List S24) : Prop := ∃ v', TrO w' B t v' l ∧ OnlyT w w' t v.ownBlock ∧ AtOr w v v'
theorem AtOr.refl (w : World) (v : Value) : AtOr w v v := .inl rfl

section
variable {w w1 w2 : World} {B : Nat} {t : Option Nat} {v v1 : Value} {l l' : List S24}
theorem OnlyT.trans (h : OnlyT w w1 t v.ownBlock) (ha : AtOr w v v1) (k : OnlyT w1 w2 t v1.ownBlock) : OnlyT w w2 t v.ownBlock :=
  ⟨k.os.trans h.os, k.tape.trans h.tape, k.output.trans h.output, Nat.le_trans h.size k.size, fun i hi h1 h2 => (k.block i (by have := h.size; omega) h1 (by
    rcases ha with e | ⟨b, e, hb⟩
    · rw [e]; exact h2
    · rw [e]; intro he; injection he with he; omega)).trans (h.block i hi h1 h2)⟩
/-- Nothing that was there has turned: the trace is what it was. -/
theorem TrO.below (h : TrO w B t v l) (hb : Below w.heap.size w w1) : TrO w1 B t v l := by
  rcases t with _ | tb
  · exact h
  · obtain ⟨h1, h2, h3⟩ := h
    exact ⟨h1, (hb.block tb (blk_lt h2)).trans h2, Kd.R_below h3 hb⟩
/-- Another trace has been written to. -/
theorem TrO.other {t' : Option Nat} {v' : Value} {row : Option Nat} (h : TrO w B t v l) (hb : OnlyT w w1 t' row) (h1 : ∀ tb, t = some tb → t' ≠ some tb ∧ row ≠ some tb) (h2 : ∀ k, v.ownBlock = some k → t' ≠ some k ∧ row ≠ some k) : TrO w1 B t v l := by
  rcases t with _ | tb
  · exact h
  · obtain ⟨h3, h4, h5⟩ := h
    obtain ⟨e1, e2⟩ := h1 tb rfl
    refine ⟨h3, (hb.block tb (blk_lt h4) (fun e => e1 e.symm) (fun e => e2 e.symm)).trans h4, ?_⟩
    obtain ⟨ho, inner, hown, hr⟩ := h5
    have hm : ∀ k, v.ownBlock = some k → w1.heap[k]? = w.heap[k]? := fun k hk => by
      obtain ⟨e3, e4⟩ := h2 k hk
      exact hb.block k (own_lt hown k hk) (fun e => e3 e.symm) (fun e => e4 e.symm)
    exact ⟨ho, inner, own_move hown hm, hr.imp_ (fun _ _ hp => by
      obtain ⟨_, _, rfl, rfl, ⟨_, _, rfl, rfl, rfl⟩⟩ := hp
      exact k24_mkM _ _ _ _)⟩
theorem PutO.trans (h : PutO w w1 B t v l) (k : ∀ v1, TrO w1 B t v1 l → PutO w1 w2 B t v1 l') : PutO w w2 B t v l' := by
  obtain ⟨v1, h1, h2, h3⟩ := h
  obtain ⟨v2, k1, k2, k3⟩ := k v1 h1
  exact ⟨v2, k1, h2.trans h3 k2, h3.trans h2.size k3⟩
theorem PutO.step (h2 : OnlyT w w1 t v.ownBlock) (h3 : AtOr w v v1) (k : PutO w1 w2 B t v1 l') : PutO w w2 B t v l' := by
  obtain ⟨v2, k1, k2, k3⟩ := k
  exact ⟨v2, k1, h2.trans h3 k2, h3.trans h2.size k3⟩
theorem PutO.of_below (h : TrO w B t v l) (hb : Below w.heap.size w w1) : PutO w w1 B t v l := ⟨v, h.below hb, OnlyT.of_below hb _ _, AtOr.refl _ _⟩
theorem PutO.after_below (hb : Below w.heap.size w w1) (k : PutO w1 w2 B t v l') : PutO w w2 B t v l' := by
  obtain ⟨v2, k1, k2, k3⟩ := k
  exact ⟨v2, k1, (OnlyT.of_below hb t v.ownBlock).trans (AtOr.refl w v) k2, (AtOr.refl w v).trans hb.size k3⟩
theorem PutO.then_below (h : PutO w w1 B t v l) (hb : Below w1.heap.size w1 w2) : PutO w w2 B t v l := h.trans fun _ h1 => PutO.of_below h1 hb
end

theorem kept_take (l : List S24) (e : S24) : kept (l.take 1000) e = (l ++ [e]).take 1000 := by
  unfold kept
  by_cases h : l.length < 1000
  · rw [if_pos (by rw [List.length_take]; omega), List.take_of_length_le (by omega), List.take_of_length_le (by simp; omega)]
  · rw [if_neg (by rw [List.length_take]; omega), List.take_append_of_le_length (by omega)]

abbrev evV (e : S24) : Value := .agg #[.int .i64 e.f0, .int .i64 e.f1, .int .i64 e.f2]

theorem putO (B : Nat) (t : Option Nat) (v : Value) (l : List S24) (e : S24) (w : World) (h : TrO w B t v l) (hl : l.length ≤ 1099511627776) :
    Calls Try.prog 36 #[ptrV t, evV e] w fun x w' => x = .returned (.tuple #[]) ∧ PutO w w' B t v (l ++ [e]) := by
  rcases t with _ | tb
  · obtain rfl : v = .slice none 0 0 := h
    have hu24 := Try.underlying24
    show Calls Try.prog 36 #[.pointer none, evV e] w _
    go_enter Try.func36, Try.ntmps36
    go_wp2
    refine bodyPost_ret (results_none rfl _ _ _) rfl ?_
    exact ⟨rfl, ⟨.slice none 0 0, rfl, OnlyT.of_below ((Below.refl _ _).alloc (Nat.le_refl _) _) _ _, AtOr.refl _ _⟩⟩
  · obtain ⟨hB, hblk, hR⟩ := h
    obtain ⟨A, c, rfl⟩ := Kd.R_slice hR
    have hm : (l.length : Int) = 0 → sumE l = beg := fun h0 => by
      obtain rfl : l = [] := List.eq_nil_of_length_eq_zero (by omega)
      rfl
    refine (put_any B tb A (l.take 1000) c (l.length : Int) (sumE l) e w hB hblk hR hm).mono ?_
    rintro x w' ⟨rfl, A1, c1, hb1, hR1, hO, hat⟩
    rw [kept_take] at hb1 hR1 hat
    have hw : wrap64 ((l.length : Int) + 1) = ((l ++ [e]).length : Int) := by
      rw [List.length_append, List.length_singleton]
      unfold wrap64
      omega
    rw [hw, ← sumE_snoc] at hb1
    exact ⟨rfl, _, ⟨hB, hb1, hR1⟩, OnlyT.of_only hO, hat⟩
end Go.Proofs.Ytcjphioimmgbfaa.Tra
