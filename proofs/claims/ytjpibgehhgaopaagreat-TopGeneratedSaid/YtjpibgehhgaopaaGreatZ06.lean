/- What a traced call changes; Span; limbs' at; each word by word, with a function handed in. -/
import Derived.Test.YtjpibgehhgaopaaGreatZ05
namespace Go.Proofs.YtjpibgehhgaopaaGreat.Top
open Go.RowKit Go.Proofs.YtjpibgehhgaopaaGreatW.PrintWords Go.Proofs.YtjpibgehhgaopaaGreatW.PrintLast Go.Proofs.YtjpibgehhgaopaaGreat.PTopGenerated
set_option linter.unusedVariables false
set_option linter.unusedSimpArgs false

/-- What lay below B stays; beyond it all but traces, their rows and the block x. -/
structure St (B : Nat) (x : Option Nat) (w w' : World) : Prop where
  bel : Below B w w'
  stay : ∀ (k : Nat) (o : Obj), w.heap[k]? = some o → some k ≠ x → (∀ cur, o ≠ .cells cur 90 (0, 0)) → (∀ cur, o ≠ .cells cur 193 (0, 0)) → w'.heap[k]? = some o
section
variable {B : Nat} {x : Option Nat} {w w1 w2 : World}
theorem St.refl (B : Nat) (x : Option Nat) (w : World) : St B x w w := ⟨Below.refl _ _, fun _ _ h _ _ _ => h⟩
theorem St.trans (h : St B x w w1) (k : St B x w1 w2) : St B x w w2 := ⟨h.bel.trans k.bel, fun i o hi h1 h2 h3 => k.stay i o (h.stay i o hi h1 h2 h3) h1 h2 h3⟩
theorem St.of_below (hB : B ≤ w.heap.size) (h : Below w.heap.size w w1) : St B x w w1 := ⟨h.mono hB, fun k o hk _ _ _ => (h.block k (blk_lt hk)).trans hk⟩
theorem St.weak (h : St B none w w1) : St B x w w1 := ⟨h.bel, fun k o hk _ h2 h3 => h.stay k o hk (by simp) h2 h3⟩
theorem St.kp (h : St B none w w1) : Kp w w1 := ⟨h.bel.size, fun k cur hk => h.stay k _ hk (by simp) (by intro c e; injection e with _ e; simp at e) (by intro c e; injection e with _ e; simp at e)⟩
theorem St.size (h : St B x w w1) : w.heap.size ≤ w1.heap.size := h.bel.size
/-- A block x that lay not there at the beginning: nothing that lay has turned. -/
theorem St.drop (h : St B x w w1) (hx : ∀ k, x = some k → w.heap.size ≤ k) : St B none w w1 :=
  ⟨h.bel, fun k o hk _ h2 h3 => h.stay k o hk (fun e => by have := hx k e.symm; have := blk_lt hk; omega) h2 h3⟩
theorem Num.st {A : Option Addr} {c : Nat} {a : List Nat} (h : Num w A c a) (hk : St B none w w1) : Num w1 A c a := h.kp hk.kp
/-- A number whose row is not the block x. -/
theorem Num.stx {A : Option Addr} {c : Nat} {a : List Nat} (h : Num w A c a) (hk : St B x w w1) (hx : ∀ ad, A = some ad → some ad.block ≠ x) : Num w1 A c a := by
  refine ⟨⟨h.rd.1, h.rd.2.1, fun hp => ?_⟩, h.cap, h.w64, fun ad e => ?_⟩
  · obtain ⟨ad, e, hc⟩ := h.rd.2.2 hp
    obtain ⟨cur, hb⟩ := h.ty ad e
    refine ⟨ad, e, fun j hj => ?_⟩
    rw [World.cell?_of_block (w := w)]
    · exact hc j hj
    · rw [addr_block, hb]
      exact hk.stay _ _ hb (hx ad e) (by intro c e; injection e with _ e; simp at e) (by intro c e; injection e with _ e; simp at e)
  · obtain ⟨cur, hb⟩ := h.ty ad e
    exact ⟨cur, hk.stay _ _ hb (hx ad e) (by intro c e; injection e with _ e; simp at e) (by intro c e; injection e with _ e; simp at e)⟩
theorem own_st {base n : Nat} {e : TypeId} {size : Nat} {v : Value} {xs : List Value} (h : w.ownsRow base e size v n xs) (hk : St B x w w1) (he : e ≠ 90 ∧ e ≠ 193) (hx : ∀ k, v.ownBlock = some k → some k ≠ x) : w1.ownsRow base e size v n xs :=
  own_move h fun k hk' => by
    obtain ⟨cur, hb⟩ := own_typed h k hk'
    rw [hb]
    exact hk.stay k _ hb (hx k hk') (by intro c e'; injection e' with _ e'; exact he.1 e') (by intro c e'; injection e' with _ e'; exact he.2 e')
end
/-- A trace, or none, with at most n events written down. -/
def T (w : World) (B : Nat) (t : Option Nat) (n : Nat) : Prop := B ≤ w.heap.size ∧ ∃ v l, TrO w B t v l ∧ l.length ≤ n
theorem T.below {w w1 : World} {B n : Nat} {t : Option Nat} (h : T w B t n) (hb : Below w.heap.size w w1) : T w1 B t n := by
  obtain ⟨hB, v, l, h1, h2⟩ := h
  exact ⟨Nat.le_trans hB hb.size, v, l, h1.below hb, h2⟩
theorem T_none (w : World) (n : Nat) : T w w.heap.size none n := ⟨Nat.le_refl _, .slice none 0 0, [], rfl, Nat.zero_le _⟩
theorem T.size {w : World} {B n : Nat} {t : Option Nat} (h : T w B t n) : B ≤ w.heap.size := h.1
theorem T.more {w : World} {B n m : Nat} {t : Option Nat} (h : T w B t n) (hm : n ≤ m) : T w B t m := by
  obtain ⟨hB, v, l, h1, h2⟩ := h
  exact ⟨hB, v, l, h1, Nat.le_trans h2 hm⟩
/-- A store into a block that is no trace's. -/
theorem T.set_ {w : World} {B n : Nat} {t : Option Nat} {g i : Nat} {cs : Array Value} (h : T w B t n) (hg : w.heap[g]? = some (.cells cs 23 (0, 0))) (u : Value) : T (w.setCell ⟨g, i, none⟩ u) B t n := by
  obtain ⟨hB, v, l, h1, h2⟩ := h
  refine ⟨by simpa using hB, v, l, ?_, h2⟩
  rcases t with _ | tb
  · exact h1
  · obtain ⟨a, b, c⟩ := h1
    refine ⟨a, ?_, Kd.R_set c hg (by decide) i u⟩
    rw [Below.heap_setCell _ _ _ _ ?_]
    · exact b
    · exact (blk_ne b hg (by decide))
theorem spanT (B : Nat) (t : Option Nat) (n : Nat) (k : Int) (w : World) (h : T w B t n) (hn : n ≤ 1000000000) :
    Calls Tryz.prog 88 #[ptrV t, .int .i64 k] w fun e w' => e = .returned (.tuple #[]) ∧ T w' B t (n + 1) ∧ St B none w w' := by
  obtain ⟨hB, v, l, h1, h2⟩ := h
  have H := Aside0.mk h1
  have hs := Aside0.mk (And.intro hB h2)
  clear h1 h2 hB
  have hu193 := Tryz.underlying193
  go_enter Tryz.func88, Tryz.ntmps88
  go_wp2_with (go_at_call 138; refine (putO B t v l ⟨1, k, 0⟩ _ H.out (by have := hs.out; omega)).mono ?_; rintro e w' ⟨rfl, hp⟩; have HP := Aside0.mk hp; clear hp)
  go_end0
  obtain ⟨v', p1, p2, p3⟩ := HP.out
  have hsz := p2.size
  refine ⟨rfl, ⟨by have := hs.out; omega, v', _, p1, by have := hs.out; simp; omega⟩, ⟨⟨p2.os, p2.tape, p2.output, p2.size, fun k hk => ?_⟩, fun k o hk _ h2 h3 => ?_⟩⟩
  · have h0 := H.out
    refine p2.block k (by have := hs.out; omega) ?_ ?_
    · rintro rfl
      have := h0.1
      omega
    · intro e
      rcases t with _ | tb
      · obtain rfl : v = .slice none 0 0 := h0
        simp [Value.ownBlock] at e
      · obtain ⟨inner, hown⟩ := Kd.R_own h0.2.2
        have := own_base hown _ e.symm
        omega
  · have h0 := H.out
    rw [p2.block k (blk_lt hk) ?_ ?_]
    · exact hk
    · rintro rfl
      have := h0.2.1
      rw [hk] at this
      injection this with this
      exact h2 _ this
    · intro e
      rcases t with _ | tb
      · obtain rfl : v = .slice none 0 0 := h0
        simp [Value.ownBlock] at e
      · obtain ⟨inner, hown⟩ := Kd.R_own h0.2.2
        obtain ⟨cur, hc⟩ := own_typed hown k e.symm
        rw [hk] at hc
        injection hc with hc
        exact h3 _ hc
theorem limbAt (A : Option Addr) (c : Nat) (a : List Nat) (i : Nat) (w : World) (h : Num w A c a) :
    Calls Tryz.prog 215 #[.slice A a.length c, .int .i64 (i : Int)] w fun e w' => e = .returned (.int .u64 ((a.getD i 0 : Nat) : Int)) ∧ w' = w := by
  by_cases h1 : i < a.length
  · have t1 : decide ((i : Int) < (a.length : Int)) = true := by rw [decide_eq_true_eq]; omega
    have hb : (i : Int) < (a.length : Int) := by omega
    obtain ⟨ad, rfl, hc⟩ := h.at_ i h1
    generalize a.getD i 0 = x at *
    clear h
    go_enter Tryz.func215, Tryz.ntmps215
    go_wp2_with fail
    go_ret
    exact ⟨rfl, rfl⟩
  · have t1 : decide ((i : Int) < (a.length : Int)) = false := by rw [decide_eq_false_iff_not]; omega
    have e0 : a.getD i 0 = 0 := by simp [List.getD, show a.length ≤ i by omega]
    rw [e0]
    clear h
    go_enter Tryz.func215, Tryz.ntmps215
    go_wp2_with fail
    go_ret
    exact ⟨rfl, rfl⟩
end Go.Proofs.YtjpibgehhgaopaaGreat.Top
/- limbs' each: word by word, with a function handed in. -/
namespace Go.Proofs.YtjpibgehhgaopaaGreat.Top
open Go.RowKit Go.Proofs.YtjpibgehhgaopaaGreatW.PrintWords Go.Proofs.YtjpibgehhgaopaaGreatW.PrintLast Go.Proofs.YtjpibgehhgaopaaGreat.PTopGenerated
set_option linter.unusedVariables false
set_option linter.unusedSimpArgs false

/-- The words done, noughts behind them. -/
def outL (z : Nat → Nat) (N i : Nat) : List Nat := (List.range i).map z ++ List.replicate (N - i) 0
theorem outL_length (z : Nat → Nat) (N i : Nat) (h : i ≤ N) : (outL z N i).length = N := by simp [outL]; omega
theorem outL_zero (z : Nat → Nat) (N : Nat) : outL z N 0 = List.replicate N 0 := by simp [outL]
theorem outL_all (z : Nat → Nat) (N : Nat) : outL z N N = (List.range N).map z := by simp [outL]
theorem outL_set (z : Nat → Nat) (N i : Nat) (h : i < N) : (outL z N i).set i (z i) = outL z N (i + 1) := by
  unfold outL
  obtain ⟨m, hm⟩ : ∃ m, N - i = m + 1 := ⟨N - i - 1, by omega⟩
  rw [hm, List.replicate_succ, List.set_append_right _ _ (by simp), List.range_succ, List.map_append, show N - (i + 1) = m by omega]
  simp
theorem nz_set (a : List Nat) (i x : Nat) : (nz a).set i (x : Int) = nz (a.set i x) := by simp [nz, List.map_set]
theorem nz_zeros (n : Nat) : List.replicate n (0 : Int) = nz (List.replicate n 0) := by simp [nz]
theorem W64_zeros (n : Nat) : W64 (List.replicate n 0) := fun x h => by rw [List.eq_of_mem_replicate h]; omega
theorem info23' : (Tryz.prog.info? 23).map (fun i => (i.zero, i.size, i.bytes)) = some (some (.int .u64 0), 1, 8) := by kernel_rfl
theorem make23 (m : Nat) (h : m ≤ 35184372088832) : ∀ W : World, (Instr.makeSlice 26 (.int .i64 (m : Int)) (.int .i64 (m : Int))).run Tryz.prog W = .ok (.slice (some ⟨W.heap.size, 0, none⟩) m m) (W.alloc (.cells (madeCells #[.int .u64 0] m) 23)) :=
  print_make 26 23 .u64 8 Tryz.underlying26 info23' (by decide) m (by omega)
theorem made23 (W : World) (base m : Nat) (hb : base ≤ W.heap.size) (hm : m ≤ 35184372088832) : (W.alloc (.cells (madeCells #[.int .u64 0] m) 23)).ownsRow base 23 1 (.slice (some ⟨W.heap.size, 0, none⟩) m m) m (nums .u64 (nz (List.replicate m 0))) := by
  have h := own_made W base 23 .u64 m hb (by omega)
  rwa [nz_zeros] at h
theorem own_blk23 {w : World} {base n c g : Nat} {xs : List Value} (h : w.ownsRow base 23 1 (.slice (some ⟨g, 0, none⟩) n c) n xs) : base ≤ g ∧ g < w.heap.size ∧ ∃ cur, w.heap[g]? = some (.cells cur 23 (0, 0)) := by
  rcases h.2 with ⟨h1, _⟩ | ⟨g', cap, cur, h1, hb, hg, _⟩
  · cases h1
  · injection h1 with h1
    injection h1 with h1
    injection h1 with h1
    subst h1
    exact ⟨hb, blk_lt hg, cur, hg⟩
theorem msr1' (j n : Nat) (h : j < n) : n - (intOf (.int .i64 ((j + 1 : Nat) : Int))).toNat < n - (intOf (.int .i64 (j : Int))).toNat := by
  show n - ((j + 1 : Nat) : Int).toNat < n - (j : Int).toNat
  omega
/-- The function handed to each: its boxes lie in blocks of words below s; each call leaves z i, and turns block x alone. -/
structure Do (B : Nat) (t x : Option Nat) (s f : Nat) (lb : Array Value) (a b : List Nat) (N : Nat) (z : Nat → Nat) (Bx : Nat → World → Prop) : Prop where
  enters : ∀ args w, (callFunc f args).run Tryz.prog w = .ok (.enter f args) w
  stab : ∀ i w w', Bx i w → (∀ k cur, k < s → w.heap[k]? = some (.cells cur 23 (0, 0)) → w'.heap[k]? = some (.cells cur 23 (0, 0))) → Bx i w'
  call : ∀ i w, i < N → Bx i w → s ≤ w.heap.size → B ≤ w.heap.size → Calls Tryz.prog f (#[.int .u64 ((a.getD i 0 : Nat) : Int), .int .u64 ((b.getD i 0 : Nat) : Int)] ++ lb) w fun e w' => e = .returned (.int .u64 ((z i : Nat) : Int)) ∧ Bx (i + 1) w' ∧ St B x w w' ∧ (∀ m, T w B t m → T w' B t m)
  xs : ∀ k, x = some k → k < s
  z64 : ∀ i, z i < 18446744073709551616

set_option maxHeartbeats 1000000 in
set_option maxRecDepth 100000 in
theorem eachT (B : Nat) (t x : Option Nat) (n f : Nat) (lb : Array Value) (A A2 : Option Addr) (c c2 : Nat) (a b : List Nat) (N : Nat) (z : Nat → Nat) (Bx : Nat → World → Prop) (w : World)
    (hT : T w B t n) (hn : n ≤ 1000000000) (ha : Num w A c a) (hb : Num w A2 c2 b) (hN : N = max a.length b.length) (hNl : N ≤ 100000) (hD : Do B t x w.heap.size f lb a b N z Bx) (h0 : Bx 0 w)
    (hxa : ∀ ad, A = some ad → some ad.block ≠ x) (hxb : ∀ ad, A2 = some ad → some ad.block ≠ x) :
    Calls Tryz.prog 182 #[ptrV t, .slice A a.length c, .slice A2 b.length c2, .func (.func f) #[] lb] w fun e w' => ∃ v, e = .returned v ∧ w'.ownsRow w.heap.size 23 1 v N (nums .u64 (nz ((List.range N).map z))) ∧ Bx N w' ∧ St B x w w' ∧ T w' B t (n + 1) := by
  have HA := Aside0.mk (And.intro ha (And.intro hb (And.intro hxa hxb)))
  have HD := Aside0.mk hD
  have H0 := Aside0.mk (And.intro h0 hT)
  have eg := hD.enters
  have m1 : max (a.length : Int) (b.length : Int) = (N : Int) := by omega
  have hmk := make23 N (by omega)
  have HNN := Aside0.mk hN
  clear ha hb hD h0 hT hxa hxb hN
  go_enter Tryz.func182, Tryz.ntmps182
  go_wp2_with fail
  refine (spanT B t n (N : Int) _ H0.out.2 hn).mono ?_
  rintro e w1 ⟨rfl, hT1, hS1⟩
  have HT1 := Aside0.mk (And.intro hT1 hS1)
  clear hT1 hS1
  go_wp2_with fail
  have HO0 := Aside0.mk (made23 w1 w.heap.size N HT1.out.2.size (by omega))
  have hbel := below_alloc (Below.refl w1.heap.size w1) (.cells (madeCells #[.int .u64 0] N) 23)
  have HI0 := Aside0.mk (show Bx 0 (w1.alloc (.cells (madeCells #[.int .u64 0] N) 23)) ∧ St B x w (w1.alloc (.cells (madeCells #[.int .u64 0] N) 23)) ∧ T (w1.alloc (.cells (madeCells #[.int .u64 0] N) 23)) B t (n + 1) from
    ⟨HD.out.stab 0 w _ H0.out.1 (fun k cur hk hc => (hbel.block k (by have := HT1.out.2.size; omega)).trans (HT1.out.2.kp.nums k cur hc)),
     (HT1.out.2.weak).trans (St.of_below (Nat.le_trans H0.out.2.size HT1.out.2.size) hbel), HT1.out.1.below hbel⟩)
  clear hbel
  have HG := Aside0.mk (show w.heap.size ≤ w1.heap.size from HT1.out.2.size)
  obtain ⟨g, hg⟩ : ∃ g, g = w1.heap.size := ⟨_, rfl⟩
  rw [← hg] at HO0 HG ⊢
  clear hg HT1 hmk
  go_loopw [23] (fun v23 wr => ∃ i : Nat, v23 = .int .i64 (i : Int) ∧ Aside0 (i ≤ N ∧ wr.ownsRow w.heap.size 23 1 (.slice (some ⟨g, 0, none⟩) N N) N (nums .u64 (nz (outL z N i)))) ∧ Aside0 (Bx i wr ∧ St B x w wr ∧ T wr B t (n + 1))) (fun v23 _ => N - (intOf v23).toNat)
  case atStart => exact ⟨0, rfl, ⟨Nat.zero_le _, by rw [outL_zero]; exact HO0.out⟩, HI0⟩
  case round =>
    obtain ⟨i, rfl, HI, HJ⟩ := hrel
    by_cases hlt : i < N
    · have HLT := Aside0.mk hlt
      have t1 : decide ((i : Int) < (N : Int)) = true := by rw [decide_eq_true_eq]; omega
      have t2 : decide (i < N) = true := by rw [decide_eq_true_eq]; exact hlt
      have w3 : wrap64 ((i : Int) + 1) = ((i + 1 : Nat) : Int) := wrap64_id (by omega) (by omega)
      have hNi : (i : Int) < (N : Int) := by omega
      have hA := Aside0.mk (HA.out.1.stx HJ.out.2.1 HA.out.2.2.1)
      have hB := Aside0.mk (HA.out.2.1.stx HJ.out.2.1 HA.out.2.2.2)
      go_wp2_with fail
      refine (limbAt A c a i _ hA.out).mono ?_
      rintro e w' ⟨rfl, rfl⟩
      go_wp2_with fail
      refine (limbAt A2 c2 b i _ hB.out).mono ?_
      rintro e w' ⟨rfl, rfl⟩
      go_wp2_with fail
      refine (HD.out.call i _ HLT.out HJ.out.1 HJ.out.2.1.size (Nat.le_trans HJ.out.2.2.size (Nat.le_refl _))).mono ?_
      rintro e w2 ⟨rfl, hB2, hS2, hT2⟩
      have HO2 := Aside0.mk (own_st HI.out.2 hS2 (by decide) (fun k hk e => by
        have h1 := own_base HI.out.2 k hk
        have h2 := HD.out.xs k e.symm
        omega))
      obtain ⟨q1, q2⟩ := own_at HO2.out (i : Int) (by omega) hNi
      rw [Int.toNat_natCast] at q1 q2
      have HJ2 := Aside0.mk (And.intro hB2 (And.intro (HJ.out.2.1.trans hS2) (hT2 _ HJ.out.2.2)))
      clear hB2 hS2 hT2 HJ
      have HG2 := Aside0.mk (own_blk23 HO2.out)
      go_wp2_with fail
      go_roundw
      case rel =>
        refine ⟨i + 1, by first | rfl | exact congrArg (Value.int .i64) w3, ⟨HLT.out, ?_⟩, ⟨?_, ?_, ?_⟩⟩
        · have h := (own_store HO2.out (i : Int) ((z i : Nat) : Int)).1
          rw [Int.toNat_natCast, nz_set, outL_set z N i HLT.out] at h
          exact h
        · refine HD.out.stab (i + 1) _ _ HJ2.out.1 (fun k cur hk hc => ?_)
          rw [Below.heap_setCell _ _ _ _ (by simp; have := HG2.out.1; omega)]
          exact hc
        · refine ⟨HJ2.out.2.1.bel.setCell (by have := HG2.out.1; have := H0.out.2.size; simp; omega) _, fun k o hk h1 h2 h3 => ?_⟩
          rw [Below.heap_setCell _ _ _ _ (by simp; have := HG2.out.1; have := blk_lt hk; omega)]
          exact HJ2.out.2.1.stay k o hk h1 h2 h3
        · obtain ⟨cur, hcur⟩ := HG2.out.2.2
          exact HJ2.out.2.2.set_ hcur _
      case measure => first | exact msr1' i N HLT.out | (rw [w3]; exact msr1' i N HLT.out)
    · obtain rfl : i = N := by have := HI.out.1; omega
      have t1 : decide ((i : Int) < (i : Int)) = false := by simp
      have HF := Aside0.mk HI.out.2
      rw [outL_all] at HF
      go_wp2_with fail
      go_ret
      exact ⟨_, rfl, HF.out, HJ.out⟩
end Go.Proofs.YtjpibgehhgaopaaGreat.Top
