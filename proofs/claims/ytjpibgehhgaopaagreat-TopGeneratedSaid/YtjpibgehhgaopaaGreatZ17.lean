/- Blocks of one's own put together; append onto a full row; long2's plain end. -/
import Derived.Laws.Append
import Derived.Test.YtjpibgehhgaopaaGreatZ16
namespace Go.Proofs.YtjpibgehhgaopaaGreat.Top
open Go.RowKit Go.Proofs.YtjpibgehhgaopaaGreatW.PrintWords Go.Proofs.YtjpibgehhgaopaaGreatW.PrintLast Go.Proofs.YtjpibgehhgaopaaGreat.PTopGenerated
set_option linter.unusedVariables false
set_option linter.unusedSimpArgs false

theorem Fr.join {w0 w W : World} {L L' : List (Nat × Obj)} (h : Fr w0 w L) (k : Fr w W L') : Fr w0 W (L ++ L') := by
  have hm := h.mv k.bel
  refine ⟨hm.bel, fun p hp => ?_, fun p hp => ?_, ?_⟩
  · rcases List.mem_append.1 hp with hp | hp
    · exact h.ge p hp
    · exact Nat.le_trans h.bel.size (k.ge p hp)
  · rcases List.mem_append.1 hp with hp | hp
    · exact hm.has p hp
    · exact k.has p hp
  · rw [List.pairwise_append]
    refine ⟨h.ne, k.ne, fun p hp q hq e => ?_⟩
    have h1 := blk_lt (h.has p hp)
    have h2 := k.ge q hq
    omega
theorem Fr.sub {w W : World} {L L' : List (Nat × Obj)} (h : Fr w W L) (hs : L'.Sublist L) : Fr w W L' :=
  ⟨h.bel, fun p hp => h.ge p (hs.mem hp), fun p hp => h.has p (hs.mem hp), h.ne.sublist hs⟩
theorem But.grown {q : Nat} {w w' : World} (h : But q w w') : w.grownBy w' (some q) := ⟨h.os, h.tape, h.output, h.size, fun k hk hne => h.block k hk (fun e => hne (by rw [e]))⟩
theorem infoB : ∃ i : TypeInfo, Tryz.prog.info? 23 = some i ∧ i.zero = some (.int .u64 0) ∧ i.size = 1 ∧ i.bytes = 8 := by
  have h := info23'
  rcases hi : Tryz.prog.info? 23 with _ | i
  · rw [hi] at h; cases h
  · rw [hi] at h
    simp only [Option.map_some, Option.some.injEq, Prod.mk.injEq] at h
    exact ⟨i, rfl, h.1, h.2.1, h.2.2⟩
theorem zeros_cells (n : Nat) : Builtin.zeroCells #[Value.int .u64 0] n = (List.replicate n (Value.int .u64 0)).toArray := by
  apply Array.ext
  · simp [Builtin.zeroCells]
  · intro i h1 h2
    simp [Builtin.zeroCells, Nat.mod_one]
/-- append onto a row without room. -/
theorem appendFull (W : World) (b bn x : Nat) (l : List Nat) (hb : W.heap[b]? = some (rowO l)) (hx : W.heap[bn]? = some (rowO [x])) (hl : l.length ≤ 1000) :
    ∃ z cu, l.length + 1 ≤ cu ∧ (Builtin.append_ #[26, 26] 26 #[.slice (some ⟨b, 0, none⟩) l.length l.length, .slice (some ⟨bn, 0, none⟩) 1 1]).run Tryz.prog W =
      .ok (.slice (some ⟨W.heap.size, 0, none⟩) (l.length + 1) cu) (W.drew.alloc (rowO (l ++ [x] ++ List.replicate z 0))) := by
  obtain ⟨i, hi, hz, hsz, hby⟩ := infoB
  have hcell : ∀ (g : Nat) (r : List Nat), W.heap[g]? = some (rowO r) → ∀ j v, (nums .u64 (nz r))[j]? = some v → W.cell? ((⟨g, 0, none⟩ : Addr).add j) = some v := by
    intro g r hg j v hv
    have e : ((⟨g, 0, none⟩ : Addr).add j) = ⟨g, j, none⟩ := by
      unfold Addr.add
      by_cases h0 : j = 0
      · subst h0; rfl
      · rw [if_neg h0]; simp
    rw [e, blk_cell hg j]
    simpa using hv
  have hfit := nextslicecap_le (need := l.length + 1) (old := l.length) (by omega)
  have h := run_append_grow (P := Tryz.prog) (w := W) 26 26 23 i (.int .u64 0) Tryz.underlying26 hi hz ⟨b, 0, none⟩ l.length l.length (nums .u64 (nz l)) (by simp [nums, hsz]) (hcell b l hb)
    ⟨bn, 0, none⟩ 1 1 (nums .u64 (nz [x])) (by simp [nums, hsz]) (hcell bn [x] hx) (by omega) (by omega) (by rw [hby]; omega)
  refine ⟨grownCap W (l.length + 1) l.length 23 - (l.length + 1), grownCap W (l.length + 1) l.length 23, grownCap_ge _ _ _ _, ?_⟩
  generalize grownCap W (l.length + 1) l.length 23 = cu at *
  have hz1 : (nums .u64 (nz l)).toArray ++ (nums .u64 (nz [x])).toArray ++ Builtin.zeroCells (Value.int .u64 0).cells (cu - (l.length + 1)) = (nums .u64 (nz (l ++ [x] ++ List.replicate (cu - (l.length + 1)) 0))).toArray := by
    rw [show (Value.int .u64 0).cells = #[Value.int .u64 0] from rfl, zeros_cells]
    generalize cu - (l.length + 1) = m
    simp only [nums, nz, List.map_append, List.append_toArray, List.map_replicate]
    rfl
  rw [hz1] at h
  exact h
end Go.Proofs.YtjpibgehhgaopaaGreat.Top
/- product's long2: the walk, by two words. -/
namespace Go.Proofs.YtjpibgehhgaopaaGreat.Top
open Go.RowKit Go.Proofs.YtjpibgehhgaopaaGreatW.PrintWords Go.Proofs.YtjpibgehhgaopaaGreatW.PrintLast Go.Proofs.YtjpibgehhgaopaaGreat.PTopGenerated
set_option linter.unusedVariables false
set_option linter.unusedSimpArgs false

theorem L2.last {A V la : Nat} {ul ql : List Nat} (h : L2 A V la 0 ul ql) : ql = digs la (A / V) ∧ val ul = A % V := by
  have hs := h.sum
  have hl := h.low
  rw [List.drop_zero] at hs hl
  rw [Nat.pow_zero, Nat.one_mul] at hs
  have hV : 0 < V := by omega
  have e1 : A / V = val ql := by rw [hs, Nat.mul_add_div hV, Nat.div_eq_of_lt hl, Nat.add_zero]
  have e2 : A % V = val ul := by rw [hs, Nat.mul_add_mod, Nat.mod_eq_of_lt hl]
  exact ⟨by rw [e1, ← h.qlen, digs_val ql h.qw], e2.symm⟩
theorem L2.first {a : List Nat} {M s : Nat} (ha : W64 a) (hM : 0 < M) (hs : s < 64) : L2 (val a * 2 ^ s) (M * 2 ^ s) a.length a.length (digs (a.length + 1) (val a * 2 ^ s) ++ [0]) (List.replicate a.length 0) := by
  have hl := val_lt a ha
  have hp : 0 < 2 ^ s := Nat.pow_pos (by omega)
  have h1 : val a * 2 ^ s < 18446744073709551616 ^ a.length * 2 ^ s := Nat.mul_lt_mul_of_pos_right hl hp
  have h2 : val a * 2 ^ s < 18446744073709551616 ^ (a.length + 1) := by
    rw [Nat.pow_succ]
    refine Nat.lt_of_lt_of_le h1 (Nat.mul_le_mul_left _ ?_)
    exact Nat.le_of_lt (Nat.lt_of_lt_of_le (Nat.pow_lt_pow_right (by omega) hs) (by decide))
  have hv : val (digs (a.length + 1) (val a * 2 ^ s) ++ [0]) = val a * 2 ^ s := by rw [val_snoc, Nat.mul_zero, Nat.add_zero, val_digs, Nat.mod_eq_of_lt h2]
  refine ⟨W64_append (digs_w _ _) (W64_one (by omega)), by simp, W64_rep _, by simp, Nat.le_refl _, ?_, ?_⟩
  · rw [hv, List.drop_of_length_le (by simp), val, Nat.mul_zero, Nat.mul_zero, Nat.zero_add]
  · have h3 := val_take_drop (digs (a.length + 1) (val a * 2 ^ s) ++ [0]) a.length (by simp; omega)
    rw [hv] at h3
    have h4 : 18446744073709551616 ^ a.length * val ((digs (a.length + 1) (val a * 2 ^ s) ++ [0]).drop a.length) < 18446744073709551616 ^ a.length * 2 ^ s := by omega
    have h5 := Nat.lt_of_mul_lt_mul_left h4
    exact Nat.lt_of_lt_of_le h5 (Nat.le_mul_of_pos_left _ hM)
theorem two_right {R s u0 u1 : Nat} (hs : s < 64) (hu0 : u0 < 18446744073709551616) (h : u0 + 18446744073709551616 * u1 = R * 2 ^ s) :
    u0 / 2 ^ s + u1 * 2 ^ (64 - s) % 18446744073709551616 = R % 18446744073709551616 ∧ u1 / 2 ^ s = R / 18446744073709551616 ∧ u0 / 2 ^ s < 2 ^ (64 - s) := by
  have hPQ : (18446744073709551616 : Nat) = 2 ^ s * 2 ^ (64 - s) := by rw [← Nat.pow_add, show s + (64 - s) = 64 by omega]
  have hP : 0 < 2 ^ s := Nat.pow_pos (by omega)
  have hQ : 0 < 2 ^ (64 - s) := Nat.pow_pos (by omega)
  rw [hPQ] at h hu0 ⊢
  generalize 2 ^ s = P at *
  generalize 2 ^ (64 - s) = Q at *
  clear hPQ
  have hd := Nat.div_add_mod u1 P
  have he := Nat.mod_lt u1 hP
  generalize u1 / P = d at *
  generalize u1 % P = e at *
  subst hd
  have h1 : u0 / P < Q := by rw [Nat.div_lt_iff_lt_mul hP, Nat.mul_comm]; exact hu0
  have h2 : (P * d + e) * Q % (P * Q) = e * Q := by
    rw [Nat.add_mul, Nat.mul_right_comm, Nat.mul_add_mod, Nat.mod_eq_of_lt (Nat.mul_lt_mul_of_pos_right he hQ)]
  have h3 : u0 / P + e * Q + P * Q * d = R := by
    have h4 : (u0 + P * (Q * (P * d + e))) / P = R := by
      rw [← Nat.mul_assoc, h, Nat.mul_div_cancel _ hP]
    rw [Nat.add_mul_div_left _ _ hP] at h4
    rw [← h4, Nat.mul_add, Nat.mul_comm e Q, ← Nat.mul_assoc Q P d, Nat.mul_comm Q P]
    omega
  have h5 : u0 / P + e * Q < P * Q := by
    have : (e + 1) * Q ≤ P * Q := Nat.mul_le_mul_right Q he
    rw [Nat.add_mul, Nat.one_mul] at this
    omega
  rw [h2, ← h3]
  refine ⟨?_, ?_, h1⟩
  · rw [Nat.add_mul_mod_self_left, Nat.mod_eq_of_lt h5]
  · rw [Nat.add_mul_div_left _ _ (Nat.mul_pos hP hQ), Nat.div_eq_of_lt h5, Nat.zero_add]
theorem two_words (a : List Nat) (h : a.length = 2) : a = [a.getD 0 0, a.getD 1 0] := by
  match a, h with
  | [x, y], _ => rfl
theorem digs_two (n R : Nat) (h : R < 18446744073709551616 ^ 2) : digs (n + 2) R = R % 18446744073709551616 :: R / 18446744073709551616 :: List.replicate n 0 := by
  have e : ∀ n, digs n 0 = List.replicate n 0 := by
    intro n
    induction n with
    | zero => rfl
    | succ n ih => rw [digs, Nat.zero_mod, Nat.zero_div, ih, List.replicate_succ]
  have h1 : R / 18446744073709551616 < 18446744073709551616 := by rw [Nat.div_lt_iff_lt_mul (by omega), ← Nat.pow_two]; exact h
  rw [digs, digs, Nat.mod_eq_of_lt h1, Nat.div_eq_of_lt h1, e]
end Go.Proofs.YtjpibgehhgaopaaGreat.Top
