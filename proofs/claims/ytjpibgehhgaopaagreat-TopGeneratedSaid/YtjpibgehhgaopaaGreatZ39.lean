/- A call's own blocks beside a trace that turns. -/
import Derived.Test.YtjpibgehhgaopaaGreatZ37
import Derived.Test.YtjpibgehhgaopaaGreatTkR
namespace Go.Proofs.YtjpibgehhgaopaaGreat.Top
open Go.RowKit Go.Proofs.YtjpibgehhgaopaaGreatW.PrintWords Go.Proofs.YtjpibgehhgaopaaGreatW.PrintLast Go.Proofs.YtjpibgehhgaopaaGreat.PTopGenerated
set_option linter.unusedVariables false
set_option linter.unusedSimpArgs false

/-- No trace, and no row of events. -/
def Nt (o : Obj) : Prop := (∀ cur, o ≠ .cells cur 90 (0, 0)) ∧ ∀ cur, o ≠ .cells cur 193 (0, 0)
theorem nt_cells (cs : Array Value) (t : TypeId) (h : t ≠ 90 ∧ t ≠ 193) : Nt (.cells cs t (0, 0)) := ⟨fun cur e => by injection e with _ e; exact h.1 e, fun cur e => by injection e with _ e; exact h.2 e⟩
theorem nt_loop (r : Loop) : Nt (.loop r) := ⟨fun cur e => (by cases e), fun cur e => (by cases e)⟩
theorem nt_def (d : Option (List Deferred)) : Nt (.deferred d) := ⟨fun cur e => (by cases e), fun cur e => (by cases e)⟩
theorem T.turn {w w1 : World} {B n : Nat} {t : Option Nat} {k : Nat} {o : Obj} (h : T w B t n) (hg : w.grownBy w1 (some k)) (ho : w.heap[k]? = some o) (hn : Nt o) : T w1 B t n := by
  obtain ⟨hB, v, l, h1, h2⟩ := h
  refine ⟨Nat.le_trans hB hg.size, v, l, ?_, h2⟩
  rcases t with _ | tb
  · exact h1
  · refine TrO.other (t' := none) (v' := .slice none 0 0) (row := some k) h1 ⟨hg.os, hg.tape, hg.output, hg.size, fun k hk _ hr => hg.block k hk hr⟩ ?_ ?_
    · intro tb' e
      injection e with e
      subst e
      refine ⟨by simp, fun e => ?_⟩
      injection e with e
      subst e
      rw [h1.2.1] at ho
      injection ho with ho
      exact hn.1 _ ho.symm
    · intro k' hk
      refine ⟨by simp, fun e => ?_⟩
      injection e with e
      subst e
      obtain ⟨inner, hown⟩ := Kd.R_own h1.2.2
      obtain ⟨cur', hc'⟩ := own_typed hown _ hk
      rw [ho] at hc'
      injection hc' with hc'
      exact hn.2 _ hc'
structure Ft (B : Nat) (t : Option Nat) (n : Nat) (w W : World) (L : List (Nat × Obj)) : Prop where
  st : St B none w W
  tr : T W B t n
  hB : B ≤ w.heap.size
  ge : ∀ p ∈ L, w.heap.size ≤ p.1
  has : ∀ p ∈ L, W.heap[p.1]? = some p.2
  ne : L.Pairwise (fun p q => p.1 ≠ q.1)
  ok : ∀ p ∈ L, Nt p.2
section
variable {B n m : Nat} {t : Option Nat} {w W W' : World} {L : List (Nat × Obj)}
theorem Ft.nil (h : T w B t n) : Ft B t n w w [] := ⟨St.refl _ _ _, h, h.size, fun _ h => by simp at h, fun _ h => by simp at h, List.Pairwise.nil, fun _ h => by simp at h⟩
theorem Ft.at (h : Ft B t n w W L) (i : Nat) {k : Nat} {o : Obj} (hi : L[i]? = some (k, o)) : W.heap[k]? = some o := h.has _ (List.mem_of_getElem? hi)
theorem Ft.cell (h : Ft B t n w W L) (i : Nat) {k : Nat} {cs : Array Value} {ty : TypeId} (hi : L[i]? = some (k, .cells cs ty (0, 0))) (j : Nat) {v : Value} (hv : cs[j]? = some v) : W.cell? ⟨k, j, none⟩ = some v := (blk_cell (h.at i hi) j).trans hv
theorem Ft.frozen (h : Ft B t n w W L) (i : Nat) {k : Nat} {cs : Array Value} {ty : TypeId} (hi : L[i]? = some (k, .cells cs ty (0, 0))) (j : Nat) : W.frozen? ⟨k, j, none⟩ = false := frozen_of_row W k j _ _ (h.at i hi)
theorem Ft.ltk (h : Ft B t n w W L) (i : Nat) {k : Nat} {o : Obj} (hi : L[i]? = some (k, o)) : w.heap.size ≤ k ∧ k < W.heap.size := ⟨h.ge _ (List.mem_of_getElem? hi), blk_lt (h.at i hi)⟩
/-- A call that may write events. -/
theorem Ft.call (h : Ft B t n w W L) (hs : St B none W W') (ht : T W' B t m) : Ft B t m w W' L :=
  ⟨h.st.trans hs, ht, h.hB, h.ge, fun p hp => hs.stay _ _ (h.has p hp) (by simp) (h.ok p hp).1 (h.ok p hp).2, h.ne, h.ok⟩
theorem Ft.mv (h : Ft B t n w W L) (hb : Below W.heap.size W W') : Ft B t n w W' L := h.call (St.of_below h.tr.size hb) (h.tr.below hb)
theorem Ft.drewN (h : Ft B t n w W L) (k : Nat) : Ft B t n w (W.drewN k) L := h.mv (pw_below_drewN (Below.refl _ _) k)
theorem Ft.more (h : Ft B t n w W L) (hm : n ≤ m) : Ft B t m w W L := ⟨h.st, h.tr.more hm, h.hB, h.ge, h.has, h.ne, h.ok⟩
theorem Ft.alloc (h : Ft B t n w W L) (o : Obj) (ho : Nt o) : Ft B t n w (W.alloc o) (L ++ [(W.heap.size, o)]) := by
  have hm := h.mv (below_alloc (Below.refl _ W) o)
  refine ⟨hm.st, hm.tr, h.hB, fun p hp => ?_, fun p hp => ?_, ?_, fun p hp => ?_⟩
  · rcases List.mem_append.1 hp with hp | hp
    · exact h.ge p hp
    · rw [List.mem_singleton] at hp; subst hp; exact h.st.size
  · rcases List.mem_append.1 hp with hp | hp
    · exact hm.has p hp
    · rw [List.mem_singleton] at hp; subst hp; exact heap_alloc_new _ _
  · rw [List.pairwise_append]
    refine ⟨h.ne, List.pairwise_singleton _ _, fun p hp q hq => ?_⟩
    rw [List.mem_singleton] at hq
    subst hq
    have := blk_lt (h.has p hp)
    show p.1 ≠ W.heap.size
    omega
  · rcases List.mem_append.1 hp with hp | hp
    · exact h.ok p hp
    · rw [List.mem_singleton] at hp; subst hp; exact ho
theorem Ft.turn (h : Ft B t n w W L) (i : Nat) {k : Nat} {o : Obj} (hi : L[i]? = some (k, o)) (o' : Obj) (ho' : Nt o') (hg : W.grownBy W' (some k)) (hk : W'.heap[k]? = some o') : Ft B t n w W' (L.set i (k, o')) := by
  have hil : i < L.length := (List.getElem?_eq_some_iff.1 hi).1
  have hge := (h.ltk i hi).1
  have hnt := h.ok _ (List.mem_of_getElem? hi)
  refine ⟨St.grow h.st h.hB hg (fun q e => by injection e with e; omega), h.tr.turn hg (h.at i hi) hnt, h.hB, fun p hp => ?_, fun p hp => ?_, ?_, fun p hp => ?_⟩
  · rcases List.mem_or_eq_of_mem_set hp with hp | rfl
    · exact h.ge p hp
    · exact hge
  · obtain ⟨j, hj⟩ := List.mem_iff_getElem?.1 hp
    rw [List.getElem?_set] at hj
    split at hj
    · injection hj with hj
      subst hj
      exact hk
    · rename_i hne
      have hpk : p.1 ≠ k := by
        intro e
        obtain ⟨hjl, hje⟩ := List.getElem?_eq_some_iff.1 hj
        obtain ⟨_, hie⟩ := List.getElem?_eq_some_iff.1 hi
        have hpw := List.pairwise_iff_getElem.1 h.ne
        rcases Nat.lt_or_gt_of_ne hne with hlt | hlt
        · have := hpw i j hil hjl hlt
          rw [hie, hje] at this
          exact this e.symm
        · have := hpw j i hjl hil hlt
          rw [hie, hje] at this
          exact this e
      have hm := h.has p (List.mem_of_getElem? hj)
      exact (hg.block p.1 (blk_lt hm) (by intro e'; injection e' with e'; exact hpk e')).trans hm
  · have hkeys : (L.set i (k, o')).map Prod.fst = L.map Prod.fst := by
      rw [List.map_set]
      apply List.ext_getElem?
      intro j
      rw [List.getElem?_set]
      split
      · rename_i e
        subst e
        rw [List.length_map, if_pos hil, List.getElem?_map, hi]
        rfl
      · rfl
    have := h.ne
    rw [← List.pairwise_map (f := Prod.fst) (R := fun a b => a ≠ b)] at this ⊢
    rw [hkeys]
    exact this
  · rcases List.mem_or_eq_of_mem_set hp with hp | rfl
    · exact h.ok p hp
    · exact ho'
theorem Ft.set_ (h : Ft B t n w W L) (i : Nat) {k : Nat} {cs : Array Value} {ty : TypeId} (hi : L[i]? = some (k, .cells cs ty (0, 0))) (j : Nat) (u : Value) (hty : ty ≠ 90 ∧ ty ≠ 193) : Ft B t n w (W.setCell ⟨k, j, none⟩ u) (L.set i (k, .cells (cs.setIfInBounds j u) ty (0, 0))) :=
  h.turn i hi _ (nt_cells _ _ hty) ⟨rfl, rfl, rfl, by simp, fun q _ hq => Below.heap_setCell _ _ _ q (fun e => hq (by rw [e]))⟩ (heap_setCell_same _ _ _ _ _ _ (h.at i hi))
theorem Ft.put (h : Ft B t n w W L) (i : Nat) {k : Nat} {o : Obj} (hi : L[i]? = some (k, o)) (o' : Obj) (ho' : Nt o') : Ft B t n w (W.putObj k o') (L.set i (k, o')) :=
  h.turn i hi _ ho' (grownBy_putObj' W k o') (World.putObj_heap_same (h.ltk i hi).2)
theorem Ft.kp_set (h : Ft B t n w W L) (i : Nat) {k : Nat} {cs : Array Value} {ty : TypeId} (hi : L[i]? = some (k, .cells cs ty (0, 0))) (hty : ty ≠ 23) (j : Nat) (u : Value) : Kp W (W.setCell ⟨k, j, none⟩ u) := Kp.set_ (h.at i hi) hty j u
theorem Ft.size (h : Ft B t n w W L) : w.heap.size ≤ W.heap.size := h.st.size
theorem Ft.bw (h : Ft B t n w W L) : B ≤ W.heap.size := Nat.le_trans h.hB h.st.size
end
theorem Rw.keep {base k : Nat} {W W' : World} {v : Value} {f : Nat → Nat} (h : Rw base W v k f) (hk : Kp W W') (hb : ∀ g cur, v.ownBlock = some g → W.heap[g]? = some (.cells cur 26 (0, 0)) → W'.heap[g]? = W.heap[g]?) : Rw base W' v k f := by
  obtain ⟨xs, h1, h2, h3⟩ := h.has
  refine ⟨xs, h1, own_move h2 fun q hq => ?_, fun j hj => ?_⟩
  · obtain ⟨cur, hc⟩ := own_typed h2 q hq
    exact hb q cur hq hc
  · obtain ⟨A, c, h4, h5⟩ := h3 j hj
    exact ⟨A, c, h4, h5.kp hk⟩
end Go.Proofs.YtjpibgehhgaopaaGreat.Top
/- power's Raw, of one word; with a trace, or none. -/
namespace Go.Proofs.YtjpibgehhgaopaaGreat.Top
open Go.RowKit Go.Shelf Go.Proofs.YtjpibgehhgaopaaGreatW.PrintWords Go.Proofs.YtjpibgehhgaopaaGreatW.PrintLast Go.Proofs.YtjpibgehhgaopaaGreat.PTopGenerated Go.Proofs.YtjpibgehhgaopaaGreat.Rf
attribute [local go_sem] Oper.semAt_some
set_option linter.unusedVariables false
set_option linter.unusedSimpArgs false

/-- Squared j times. -/
def sqN (M x : Nat) : Nat → Nat
  | 0 => x
  | j + 1 => prodW M (sqN M x j) (sqN M x j)
/-- What k windows come to. -/
def winS (M a E : Nat) : Nat → Nat
  | 0 => powF M a 0
  | k + 1 => prodW M (sqN M (winS M a E k) 4) (powF M a (winF E k))
/-- What power's Raw answers, of one word. -/
def powW (M a E : Nat) : Nat := prodW M (winS M a E 16) 1
theorem winF_lt (E k : Nat) : winF E k < 16 := Nat.mod_lt _ (by omega)
theorem powF_lt {M : Nat} (hM : 0 < M) (hw : M < 18446744073709551616) (a : Nat) : ∀ j, powF M a j < 18446744073709551616
  | 0 => Nat.lt_trans (Nat.mod_lt _ hM) hw
  | j + 1 => prodW_lt _ _ _
/-- Raw's blocks. -/
def PowL (bt bm bl bx be d l : Nat) (tp : Option Addr) (mo : Obj) (lv xv ev : Value) (r : Loop) : List (Nat × Obj) :=
  [(bt, .cells #[.pointer tp] 53), (bm, mo), (bl, .cells #[lv] 45), (bx, .cells #[xv] 26), (be, .cells #[ev] 26), (d, .deferred (some [])), (l, .loop r)]
theorem Ft.mo {B n : Nat} {t : Option Nat} {w W : World} {L : List (Nat × Obj)} (h : Ft B t n w W L) (i : Nat) {k : Nat} {a b c : Value} {ty : TypeId} (hi : L[i]? = some (k, .cells #[a, b, c] ty (0, 0))) : W.cell? ⟨k, 0, none⟩ = some a ∧ W.cell? ⟨k, 1, none⟩ = some b ∧ W.cell? ⟨k, 2, none⟩ = some c :=
  ⟨h.cell i hi 0 rfl, h.cell i hi 1 rfl, h.cell i hi 2 rfl⟩
theorem Ft.c0 {B n : Nat} {t : Option Nat} {w W : World} {L : List (Nat × Obj)} (h : Ft B t n w W L) (i : Nat) {k : Nat} {a : Value} {ty : TypeId} (hi : L[i]? = some (k, .cells #[a] ty (0, 0))) : W.cell? ⟨k, 0, none⟩ = some a := h.cell i hi 0 rfl
set_option maxHeartbeats 4000000 in
set_option maxRecDepth 100000 in
theorem powRawT (B : Nat) (t : Option Nat) (n : Nat) (v : Value) (M a E : Nat) (Aa Ae : Option Addr) (ca ce : Nat) (w : World) (hT : T w B t n) (hn : n ≤ 700000000) (hM : Md w v M) (h1 : 1 < M) (ho : M % 2 = 1) (ha : Num w Aa ca [a]) (he : Num w Ae ce [E]) :
    Calls Tryz.prog 171 #[ptrV t, v, .slice Aa 1 ca, .slice Ae 1 ce] w fun e w' => ∃ A c, e = .returned (.slice A 1 c) ∧ Num w' A c [powW M a E] ∧ St B none w w' ∧ T w' B t (n + 547) := by
  obtain ⟨tp, htp⟩ : ∃ tp : Option Addr, .pointer tp = ptrV t := ⟨_, rfl⟩
  rw [← htp]
  have HTp := Aside0.mk htp
  have HMd := Aside0.mk hM
  obtain ⟨A1, c1, A2, c2, rfl, hm1, hm2⟩ := hM
  have HMw := Aside0.mk (hm1.w64 M (by simp))
  obtain ⟨kk, hkk⟩ : ∃ kk, kk = KI M := ⟨_, rfl⟩
  rw [← hkk] at HMd ⊢
  have HP := Aside0.mk (fun (W : World) (m x y : Nat) (Ax Ay : Option Addr) (cx cy : Nat) (hS : St B none w W) (hT : T W B t m) (hm : m ≤ 900000000) hx hy => productS B t m M x y (.agg #[.slice A1 1 c1, .int .u64 kk, .slice A2 1 c2]) Ax Ay cx cy W hT hm (HMd.out.kp hS.kp) (by omega) hx hy hT.size)
  rw [← htp] at HP
  have HPow := Aside0.mk (fun (W : World) (hS : St B none w W) (hT : T W B t n) => powersN B t n M a (.agg #[.slice A1 1 c1, .int .u64 kk, .slice A2 1 c2]) Aa ca W hT (by omega) (HMd.out.kp hS.kp) h1 ho (ha.st hS) hT.size)
  rw [← htp] at HPow
  obtain ⟨mo, hmo⟩ : ∃ mo, mo = Obj.cells #[.slice A1 1 c1, .int .u64 kk, .slice A2 1 c2] 73 (0, 0) := ⟨_, rfl⟩
  have hmon : Nt mo := by rw [hmo]; exact nt_cells _ _ (by decide)
  have HF0 := Aside0.mk (((Ft.nil hT).alloc (.cells #[.pointer tp] 53) (nt_cells _ _ (by decide))).alloc mo hmon)
  simp only [List.nil_append, List.cons_append, World.size_alloc] at HF0
  have HE := Aside0.mk he
  obtain ⟨m0, m1, m2⟩ := HF0.out.mo 1 (by rw [hmo]; rfl)
  have b0 := HF0.out.c0 0 rfl
  have HMO := Aside0.mk hmo
  have HMN := Aside0.mk hmon
  rw [hmo] at m0 m1 m2 b0 HF0
  have HFp := Aside0.mk (powF_lt (M := M) (by omega) HMw.out a)
  have HNn := Aside0.mk (And.intro hn (And.intro h1 ho))
  clear htp hT hm1 hm2 hkk ha he hmo hmon hn h1 ho
  refine (callsIn_wide (n := 3)).1 ?_
  refine callsIn_of_wp_marks Tryz.func171 rfl trivial ?_ rfl
  simp only [Tryz.ntmps171, List.size_toArray, List.length_cons, List.length_nil, Nat.reduceAdd, Nat.reduceSub, Array.replicate_succ, Array.replicate_zero, List.push_toArray, List.append_toArray, List.nil_append, List.cons_append]
  refine wpIn_wide.2 ?_
  go_wp2_with fail
  refine (HPow.out _ HF0.out.st HF0.out.tr).mono ?_
  rintro e w1 ⟨Al, cl, rfl, hrw, hst1, ht1⟩
  obtain ⟨g, cl', X0, d0, hv, hge, hc0, hn0⟩ := hrw.at 0 (by omega)
  injection hv with hv1 hv2 hv3
  subst hv1
  subst hv3
  have HF1 := Aside0.mk (HF0.out.call hst1 ht1)
  have HF2 := Aside0.mk (HF1.out.alloc (.cells #[.slice (some ⟨g, 0, none⟩) 16 cl] 45) (nt_cells _ _ (by decide)))
  simp only [List.nil_append, List.cons_append, World.size_alloc] at HF2
  have HG := Aside0.mk (show g < w1.heap.size from World.block_lt_of_cell? _ _ hc0)
  have HR1 := Aside0.mk (And.intro hrw hn0)
  have hc1 : (w1.alloc (.cells #[.slice (some ⟨g, 0, none⟩) 16 cl] 45)).cell? ⟨g, 0, none⟩ = some (.slice X0 1 d0) := pw_cell_below (below_alloc (Below.refl _ _) _) hc0
  clear m0 m1 m2 b0 hv2 hc0 hn0 hrw hst1 ht1 hge
  go_wp2_with fail
  refine (windowsN _ _ _ _).mono ?_
  rintro e w2 ⟨rfl, rfl⟩
  go_wp2_with fail
  obtain ⟨moO, hmo⟩ : ∃ moO, moO = Obj.cells #[.slice A1 1 c1, .int .u64 kk, .slice A2 1 c2] 73 (0, 0) := ⟨_, rfl⟩
  have hmon : Nt moO := by rw [hmo]; exact nt_cells _ _ (by decide)
  have HF3 := Aside0.mk (fun r => ((((HF2.out.alloc (.cells #[.slice X0 1 d0] 26) (nt_cells _ _ (by decide))).alloc (.cells #[.slice Ae 1 ce] 26) (nt_cells _ _ (by decide))).alloc (.deferred (some [])) (nt_def _)).alloc (.loop r) (nt_loop _)))
  simp only [List.nil_append, List.cons_append, World.size_alloc] at HF3
  obtain ⟨wl, hwl⟩ : ∃ wl, wl = ((w1.alloc (.cells #[.slice (some ⟨g, 0, none⟩) 16 cl] 45)).alloc (.cells #[.slice X0 1 d0] 26)).alloc (.cells #[.slice Ae 1 ce] 26) := ⟨_, rfl⟩
  obtain ⟨bt, hbt⟩ : ∃ bt, bt = w.heap.size := ⟨_, rfl⟩
  obtain ⟨bl, hbl⟩ : ∃ bl, bl = w1.heap.size := ⟨_, rfl⟩
  obtain ⟨Bz, hBz⟩ : ∃ Bz, Bz = ((w.alloc (.cells #[.pointer tp] 53)).alloc (.cells #[.slice A1 1 c1, .int .u64 kk, .slice A2 1 c2] 73)).heap.size := ⟨_, rfl⟩
  have hsz : wl.heap.size = bl + 1 + 1 + 1 := by rw [hwl, hbl]; simp
  have HX3 := Aside0.mk (show ∀ r, Num ((wl.alloc (.deferred (some []))).alloc (.loop r)) X0 d0 [winS M a E 0] ∧ Rw Bz ((wl.alloc (.deferred (some []))).alloc (.loop r)) (.slice (some ⟨g, 0, none⟩) 16 cl) 16 (powF M a) from fun r => by
    rw [hwl, hBz]
    have hb := ((((below_alloc (below_alloc (below_alloc (Below.refl w1.heap.size w1) (.cells #[.slice (some ⟨g, 0, none⟩) 16 cl] 45)) (.cells #[.slice X0 1 d0] 26)) (.cells #[.slice Ae 1 ce] 26)))).alloc (by simp; omega) (.deferred (some []))).alloc (by simp; omega) (.loop r)
    exact ⟨HR1.out.2.below hb, HR1.out.1.below hb⟩)
  rw [← hwl, ← hbt, ← hbl, ← hmo] at HF3
  rw [← hbl] at HG
  rw [← hwl, ← hbt, ← hbl]
  change Aside0 (∀ r, Ft B t (n + 48) w ((wl.alloc (.deferred (some []))).alloc (.loop r)) (PowL bt (bt + 1) bl (bl + 1) (bl + 1 + 1) (bl + 1 + 1 + 1) (bl + 1 + 1 + 1 + 1) tp moO (.slice (some ⟨g, 0, none⟩) 16 cl) (.slice X0 1 d0) (.slice Ae 1 ce) r)) at HF3
  have HRk := Aside0.mk (show ∀ W W' : World, Rw Bz W (.slice (some ⟨g, 0, none⟩) 16 cl) 16 (powF M a) → Kp W W' → W'.heap[g]? = W.heap[g]? → Rw Bz W' (.slice (some ⟨g, 0, none⟩) 16 cl) 16 (powF M a) from fun W W' h hk hg => h.keep hk (fun g' cur e _ => by
    have e' : g = g' := Option.some.inj e
    rw [← e']
    exact hg))
  have HPk := Aside0.mk (show ∀ (W W' : World) (k : Nat), Rw Bz W (.slice (some ⟨g, 0, none⟩) 16 cl) 16 (powF M a) → T W B t k → k ≤ 900000000 → ∀ iw, iw < 16 → Calls Tryz.prog 210 #[.pointer tp, .slice (some ⟨g, 0, none⟩) 16 cl, .int .u64 ((iw : Nat) : Int)] W fun e w' => ∃ A' c', e = .returned (.slice A' 1 c') ∧ Num w' A' c' [powF M a iw] ∧ St B none W w' ∧ T w' B t (k + 16) from fun W W' k h ht hk iw hi => by
    rw [HTp.out]
    exact pickT B t k Bz iw (powF M a) _ _ W ht hk h HFp.out hi ht.size)
  have HMn2 := Aside0.mk hmon
  clear hwl hbt hbl hBz hmon HF0 HF1 HF2 HR1 hc1 HMO HMN HPow HFp HTp
  refine (wpIn_wide (n := 3)).1 ?_
  refine wp_rangeFunc (gf := 234) (lb := #[.pointer (some ⟨bl + 1 + 1, 0, none⟩)]) rfl (enters_of Tryz.func234 (by kernel_rfl) rfl)
    (fun W => ∃ A d r, Ft B t (n + 544) w W (PowL bt (bt + 1) bl (bl + 1) (bl + 1 + 1) (bl + 1 + 1 + 1) (bl + 1 + 1 + 1 + 1) tp moO (.slice (some ⟨g, 0, none⟩) 16 cl) (.slice A 1 d) (.slice Ae 1 ce) r) ∧ Num W A d [winS M a E 16]) (fun k W => False) ?call ?done ?stop
  case call =>
    intro fn rec hrec
    rw [hsz]
    refine (win_in 2 (bl + 1 + 1 + 1 + 1) (bl + 1 + 1) Ae ce E
      (fun k W => ∃ A d, Ft B t (n + 48 + 31 * k) w W (PowL bt (bt + 1) bl (bl + 1) (bl + 1 + 1) (bl + 1 + 1 + 1) (bl + 1 + 1 + 1 + 1) tp moO (.slice (some ⟨g, 0, none⟩) 16 cl) (.slice A 1 d) (.slice Ae 1 ce) (rec .ready none)) ∧ Num W A d [winS M a E k] ∧ Rw Bz W (.slice (some ⟨g, 0, none⟩) 16 cl) 16 (powF M a)) ?_ ?_ _ ?_).mono ?_
    · rintro k W ⟨A, d, h1, h2, h3⟩
      exact ⟨h1.c0 4 rfl, HE.out.st h1.st⟩
    · rintro k W m hk ⟨A, d, h1, h2, h3⟩
      have HF0 := Aside0.mk (And.intro h1 (And.intro h2 h3))
      have HSt := Aside0.mk (show winS M a E (k + 1) = prodW M (sqN M (winS M a E k) 4) (powF M a (winF E k)) from rfl)
      have HW16 := Aside0.mk (winF_lt E k)
      have HK := Aside0.mk hk
      generalize winF E k = iw at *
      generalize winS M a E (k + 1) = xk' at *
      generalize winS M a E k = xk at *
      clear h1 h2 h3 hk
      refine yield_at hrec (HF0.out.1.at 6 rfl) rfl ?_
      gi_wp2_with fail
      refine ⟨HF0.out.1.at 6 rfl, ?_⟩
      have HF := Aside0.mk (HF0.out.1.put 6 rfl (.loop (rec .busy none)) (nt_loop _))
      have hkp := Kp.put (HF0.out.1.at 6 rfl) rfl (.loop (rec .busy none))
      have HX := Aside0.mk (And.intro (HF0.out.2.1.kp hkp) (HRk.out _ _ HF0.out.2.2 hkp (by
        have hlt := (HF0.out.1.ltk 2 rfl).2
        exact (grownBy_putObj' W _ _).block g (by have := HG.out; omega) (by intro e; injection e with e; have := HG.out; omega))))
      obtain ⟨Wb, hWb⟩ : ∃ Wb, Wb = W.putObj (bl + 1 + 1 + 1 + 1) (.loop (rec .busy none)) := ⟨_, rfl⟩
      rw [← hWb] at HF HX ⊢
      clear hWb HF0 hkp
      gi_wp2_with fail
      gi_loopw [23] (fun v23 wq => ∃ (j : Nat) (A' : Option Addr) (d' : Nat), v23 = .int .i64 (j : Int) ∧ Aside0 (j ≤ 4 ∧ Ft B t (n + 48 + 31 * k + 3 * j) w wq (PowL bt (bt + 1) bl (bl + 1) (bl + 1 + 1) (bl + 1 + 1 + 1) (bl + 1 + 1 + 1 + 1) tp moO (.slice (some ⟨g, 0, none⟩) 16 cl) (.slice A' 1 d') (.slice Ae 1 ce) (rec .busy none)) ∧ Num wq A' d' [sqN M xk j] ∧ Rw Bz wq (.slice (some ⟨g, 0, none⟩) 16 cl) 16 (powF M a))) (fun v23 _ => 4 - (intOf v23).toNat)
      case atStart => exact ⟨0, A, d, rfl, ⟨by omega, HF.out, HX.out.1, HX.out.2⟩⟩
      case round =>
        obtain ⟨j, A', d', rfl, HJ⟩ := hrel
        clear HF HX
        by_cases hlt : j < 4
        · have HLT := Aside0.mk hlt
          have t1 : decide ((j : Int) < 4) = true := by rw [decide_eq_true_eq]; omega
          have t2 : decide (j < 4) = true := by rw [decide_eq_true_eq]; exact hlt
          have w3 : wrap64 ((j : Int) + 1) = ((j + 1 : Nat) : Int) := wrap64_id (by omega) (by omega)
          obtain ⟨m0, m1, m2⟩ := HJ.out.2.1.mo 1 (by rw [hmo]; rfl)
          have b0 := HJ.out.2.1.c0 0 rfl
          have x0 := HJ.out.2.1.c0 3 rfl
          have f0 := HJ.out.2.1.frozen 3 rfl 0
          have HC := Aside0.mk (HP.out wr _ _ _ _ _ _ _ HJ.out.2.1.st HJ.out.2.1.tr (by have := HK.out; have := HNn.out.1; omega) HJ.out.2.2.1 HJ.out.2.2.1)
          clear hlt
          gi_wp2_with fail
          refine ⟨trivial, (fun h => by cases h), ?_⟩
          refine ((callsIn_wide.2 HC.out).inRound _).mono ?_
          rintro e w5 ⟨A5, d5, rfl, hn5, hs5, ht5⟩
          have HF5 := Aside0.mk (HJ.out.2.1.call hs5 ht5)
          have f5 := HF5.out.frozen 3 rfl 0
          have x5 := HF5.out.c0 3 rfl
          have hkp := HF5.out.kp_set 3 rfl (by decide) 0 (.slice A5 1 d5)
          have HF6 := Aside0.mk (HF5.out.set_ 3 rfl 0 (.slice A5 1 d5) (by decide))
          have HX6 := Aside0.mk (And.intro (hn5.kp hkp) (HRk.out _ _ (HJ.out.2.2.2.st hs5) hkp (Below.heap_setCell _ _ _ _ (by show g ≠ bl + 1; have := HG.out; omega))))
          simp only [List.set, Array.setIfInBounds] at HF6
          clear m0 m1 m2 b0 x0 f0 hn5 hs5 ht5 hkp
          gi_wp2_with fail
          refine ⟨⟨j + 1, A5, d5, congrArg (Value.int .i64) w3, ⟨HLT.out, by have := HF6.out; rw [show n + 48 + 31 * k + 3 * j + 3 = n + 48 + 31 * k + 3 * (j + 1) by omega] at this; exact this, HX6.out.1, HX6.out.2⟩⟩, ?_⟩
          rw [w3]
          exact msr1' j 4 HLT.out
        · obtain rfl : j = 4 := by have := HJ.out.1; omega
          have t1 : decide (((4 : Nat) : Int) < 4) = false := by decide
          clear hlt
          gi_wp2_with fail
          obtain ⟨m0, m1, m2⟩ := HJ.out.2.1.mo 1 (by rw [hmo]; rfl)
          have b0 := HJ.out.2.1.c0 0 rfl
          have x0 := HJ.out.2.1.c0 3 rfl
          have l0 := HJ.out.2.1.c0 2 rfl
          have HD := Aside0.mk (HJ.out.2.1.drewN 1)
          have HXD := Aside0.mk (show Num wr.drew A' d' [sqN M xk 4] ∧ Rw Bz wr.drew (.slice (some ⟨g, 0, none⟩) 16 cl) 16 (powF M a) from ⟨HJ.out.2.2.1.below (pw_below_drewN (Below.refl _ _) 1), HJ.out.2.2.2.below (pw_below_drewN (Below.refl _ _) 1)⟩)
          have HPC := Aside0.mk (HPk.out wr.drew wr.drew _ HXD.out.2 HD.out.tr (by have := HK.out; have := HNn.out.1; omega) iw HW16.out)
          -- BEGIN R9
          refine startIn_ (n := 9) (S := fun w' => w'.cell? ⟨bt, 0, none⟩ = some (.pointer tp) ∧ w'.cell? ⟨bt + 1, 0, none⟩ = some (.slice A1 1 c1) ∧ w'.cell? ⟨bt + 1, 1, none⟩ = some (.int .u64 kk) ∧ w'.cell? ⟨bt + 1, 2, none⟩ = some (.slice A2 1 c2) ∧ w'.cell? ⟨bl, 0, none⟩ = some (.slice (some ⟨g, 0, none⟩) 16 cl) ∧ w'.cell? ⟨bl + 1, 0, none⟩ = some (.slice A' 1 d')) (ds := [7, 8]) #[false, false, false, false, false, false, false, false, false] (by kernel_rfl) (by kernel_rfl) rfl rfl ⟨b0, m0, m1, m2, l0, x0⟩ (fun hHeld => ?_)
          refine pure_ (i := 5) (N := some 36) (v := ?_) (a' := ?_) #[false, false, false, false, false, true, false, false, false] rfl rfl (by kernel_rfl) (fun _ _ _ h => h) (Or.inl ⟨by rfl, ?_⟩) ?_ ?_
          rotate_left
          · intro w'
            go_simp
            with_reducible rfl
          rotate_left
          · simp only [Act.put, List.setIfInBounds_toArray, List.set_cons_zero, List.set_cons_succ, i64_w, i32_w]
            rfl
          refine take_ (i := 0) (N := some 31) (v := ?_) (a' := ?_) #[true, false, false, false, false, true, false, false, false] rfl rfl (by kernel_rfl) (fun _ _ _ h => h) (Or.inl ⟨by rfl, ?_⟩) hHeld ?_ ?_
          rotate_left
          · rintro w' ⟨s0, s1, s2, s3, s4, s5⟩
            go_simp
            with_reducible rfl
          rotate_left
          · simp only [Act.put, List.setIfInBounds_toArray, List.set_cons_zero, List.set_cons_succ, i64_w, i32_w]
            rfl
          refine take_ (i := 1) (N := some 32) (v := ?_) (a' := ?_) #[true, true, false, false, false, true, false, false, false] rfl rfl (by kernel_rfl) (fun _ _ _ h => h) (Or.inl ⟨by rfl, ?_⟩) hHeld ?_ ?_
          rotate_left
          · rintro w' ⟨s0, s1, s2, s3, s4, s5⟩
            go_simp
            with_reducible rfl
          rotate_left
          · simp only [Act.put, List.setIfInBounds_toArray, List.set_cons_zero, List.set_cons_succ, i64_w, i32_w]
            rfl
          refine take_ (i := 2) (N := some 33) (v := ?_) (a' := ?_) #[true, true, true, false, false, true, false, false, false] rfl rfl (by kernel_rfl) (fun _ _ _ h => h) (Or.inl ⟨by rfl, ?_⟩) hHeld ?_ ?_
          rotate_left
          · rintro w' ⟨s0, s1, s2, s3, s4, s5⟩
            go_simp
            with_reducible rfl
          rotate_left
          · simp only [Act.put, List.setIfInBounds_toArray, List.set_cons_zero, List.set_cons_succ, i64_w, i32_w]
            rfl
          refine take_ (i := 3) (N := some 34) (v := ?_) (a' := ?_) #[true, true, true, true, false, true, false, false, false] rfl rfl (by kernel_rfl) (fun _ _ _ h => h) (Or.inl ⟨by rfl, ?_⟩) hHeld ?_ ?_
          rotate_left
          · rintro w' ⟨s0, s1, s2, s3, s4, s5⟩
            go_simp
            with_reducible rfl
          rotate_left
          · simp only [Act.put, List.setIfInBounds_toArray, List.set_cons_zero, List.set_cons_succ, i64_w, i32_w]
            rfl
          refine take_ (i := 4) (N := some 35) (v := ?_) (a' := ?_) #[true, true, true, true, true, true, false, false, false] rfl rfl (by kernel_rfl) (fun _ _ _ h => h) (Or.inl ⟨by rfl, ?_⟩) hHeld ?_ ?_
          rotate_left
          · rintro w' ⟨s0, s1, s2, s3, s4, s5⟩
            go_simp
            with_reducible rfl
          rotate_left
          · simp only [Act.put, List.setIfInBounds_toArray, List.set_cons_zero, List.set_cons_succ, i64_w, i32_w]
            rfl
          refine one_ (i := 6) (N := some 37) #[true, true, true, true, true, true, true, false, false] rfl rfl (by kernel_rfl) (by decide) (fun K hK => ?_)
          refine goes_ Tryz.func210 (by kernel_rfl) rfl #[.pointer tp, .slice (some ⟨g, 0, none⟩) 16 cl, .int .u64 (iw : Int)] (by rfl) rfl rfl (by simp only [List.map_toArray, List.map_cons, List.map_nil]; rfl) ?_
          with_reducible refine (HPC.out).mono ?_
          rintro e w5 ⟨A5, d5, rfl, hn5, hs5, ht5⟩
          have HF5 := Aside0.mk (HD.out.call hs5 ht5)
          have HX5 := Aside0.mk (And.intro hn5 (And.intro (HXD.out.1.st hs5) (HXD.out.2.st hs5)))
          obtain ⟨q0, q1, q2⟩ := HF5.out.mo 1 (by rw [hmo]; rfl)
          have qb := HF5.out.c0 0 rfl
          have qx := HF5.out.c0 3 rfl
          have ql := HF5.out.c0 2 rfl
          have HC6 := Aside0.mk (HP.out w5 _ _ _ _ _ _ _ HF5.out.st HF5.out.tr (by have := HK.out; have := HNn.out.1; omega) HX5.out.2.1 HX5.out.1)
          clear hn5 hs5 ht5
          refine ⟨_, rfl, ?_⟩
          refine hK.out _ _ ⟨qb, q0, q1, q2, ql, qx⟩ (fun hHeld => ?_)
          clear hK K
          refine norm_ (a' := ?_) ?_ ?_
          rotate_left
          · show Act.put _ (some 37) _ = _
            simp only [Act.put, List.setIfInBounds_toArray, List.set_cons_zero, List.set_cons_succ, i64_w, i32_w]
            rfl
          refine last_ (i := 7) (N := some 38) #[true, true, true, true, true, true, true, true, false] rfl rfl (by kernel_rfl) (by decide) (fun K hK => ?_)
          refine goes_ Tryz.func93 (by kernel_rfl) rfl #[.pointer tp, .agg #[.slice A1 1 c1, .int .u64 kk, .slice A2 1 c2], .slice A' 1 d', .slice A5 1 d5] (by rfl) rfl rfl (by simp only [List.map_toArray, List.map_cons, List.map_nil]; rfl) ?_
          with_reducible refine (HC6.out).mono ?_
          rintro e w6 ⟨A6, d6, rfl, hn6, hs6, ht6⟩
          have HF6 := Aside0.mk (HF5.out.call hs6 ht6)
          have f6 := HF6.out.frozen 3 rfl 0
          have x6 := HF6.out.c0 3 rfl
          have hkp := HF6.out.kp_set 3 rfl (by decide) 0 (.slice A6 1 d6)
          have HF7 := Aside0.mk (HF6.out.set_ 3 rfl 0 (.slice A6 1 d6) (by decide))
          have HX7 := Aside0.mk (And.intro (hn6.kp hkp) (HRk.out _ _ (HX5.out.2.2.st hs6) hkp (Below.heap_setCell _ _ _ _ (by show g ≠ bl + 1; have := HG.out; omega))))
          simp only [List.set, Array.setIfInBounds] at HF7
          clear hn6 hs6 ht6 hkp q0 q1 q2 qb qx ql
          refine ⟨_, rfl, ?_⟩
          refine hK.out _ _ ?_
          clear hK K
          refine norm_ (a' := ?_) ?_ ?_
          rotate_left
          · show Act.put _ (some 38) _ = _
            simp only [Act.put, List.setIfInBounds_toArray, List.set_cons_zero, List.set_cons_succ, i64_w, i32_w]
            rfl
          refine last_ (i := 8) (N := none) #[true, true, true, true, true, true, true, true, true] rfl rfl (by kernel_rfl) (by decide) (fun K hK => ?_)
          refine skip_ (w1 := ?_) (by rfl) rfl ?_ ?_
          rotate_left
          · go_simp
            rfl
          refine hK.out _ _ ?_
          clear hK K
          refine done_ (by kernel_rfl) ?_
          -- END R9
          have hput := Kp.put (HF7.out.at 6 rfl) rfl (.loop (rec .ready none))
          have hgl : ((w6.setCell ⟨bl + 1, 0, none⟩ (.slice A6 1 d6)).putObj (bl + 1 + 1 + 1 + 1) (.loop (rec .ready none))).heap[g]? = (w6.setCell ⟨bl + 1, 0, none⟩ (.slice A6 1 d6)).heap[g]? := by
            have hlt := (HF7.out.ltk 2 rfl).2
            exact (grownBy_putObj' _ _ _).block g (by have := HG.out; omega) (by intro e; injection e with e; have := HG.out; omega)
          refine ⟨rfl, HF7.out.at 6 rfl, rfl, A6, d6, ?_, ?_, ?_⟩
          · have h := HF7.out.put 6 rfl (.loop (rec .ready none)) (nt_loop _)
            rw [show n + 48 + 31 * k + 3 * 4 + 16 + 3 = n + 48 + 31 * (k + 1) by omega] at h
            exact h
          · rw [HSt.out]
            exact HX7.out.1.kp hput
          · exact HRk.out _ _ HX7.out.2 hput hgl
    · exact ⟨X0, d0, HF3.out _, HX3.out _⟩
    · rintro e W ⟨he, A, d, h1, h2, h3⟩
      exact ⟨he, .inl ⟨h1.at 6 rfl, A, d, _, h1, h2⟩⟩
  case done =>
    rintro W o ⟨A, d, r, h, hn⟩ hlo o'
    rw [hsz] at hlo ⊢
    have hkp := Kp.put (h.at 6 rfl) rfl (.loop o')
    have HF := Aside0.mk (h.put 6 rfl (.loop o') (nt_loop _))
    have HX := Aside0.mk (hn.kp hkp)
    obtain ⟨Wb, hWb⟩ : ∃ Wb, Wb = W.putObj (bl + 1 + 1 + 1 + 1) (.loop o') := ⟨_, rfl⟩
    rw [← hWb] at HF HX ⊢
    clear hWb h hlo hkp hn
    obtain ⟨m0, m1, m2⟩ := HF.out.mo 1 (by rw [hmo]; rfl)
    have b0 := HF.out.c0 0 rfl
    have x0 := HF.out.c0 3 rfl
    have hmk := make23_1
    have hb1 := below_alloc (Below.refl Wb.heap.size Wb) (.cells #[.int .u64 1] 23)
    have HF2 := Aside0.mk (HF.out.mv hb1)
    have HC := Aside0.mk (HP.out (Wb.alloc (.cells #[.int .u64 1] 23)) _ _ 1 _ _ _ _ HF2.out.st HF2.out.tr (by have := HNn.out.1; omega) (HX.out.below hb1) (litNum Wb 1 (by omega)))
    obtain ⟨k0, k1, k2⟩ := HF2.out.mo 1 (by rw [hmo]; rfl)
    have kb := HF2.out.c0 0 rfl
    have kx := HF2.out.c0 3 rfl
    clear hb1
    go_wp2_with fail
    refine HC.out.mono ?_
    rintro e w9 ⟨A9, d9, rfl, hn9, hs9, ht9⟩
    have HF9 := Aside0.mk (HF2.out.call hs9 ht9)
    have HN9 := Aside0.mk hn9
    clear hn9 hs9 ht9 b0 x0 m0 m1 m2 k0 k1 k2 kb kx
    go_wp2_with fail
    refine ⟨by simp, .inl ⟨_, _, rfl, run_takeDeferred (HF9.out.at 5 rfl), ?_⟩⟩
    refine ⟨.slice A9 1 d9, ?_, A9, d9, rfl, HN9.out.kp (Kp.put (HF9.out.at 5 rfl) rfl _), (HF9.out.put 5 rfl _ (nt_def _)).st, (HF9.out.put 5 rfl _ (nt_def _)).tr⟩
    simp [results, Tryz.f171, go_sem]
  case stop =>
    rintro k W o h
    exact h.elim
end Go.Proofs.YtjpibgehhgaopaaGreat.Top
