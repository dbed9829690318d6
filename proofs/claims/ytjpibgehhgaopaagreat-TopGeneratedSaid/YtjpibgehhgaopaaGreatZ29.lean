/- prime's candidates: the iterator. -/
import Derived.Test.YtjpibgehhgaopaaGreatZ27
import Derived.Test.YtjpibgehhgaopaaGreatTiC
namespace Go.Proofs.YtjpibgehhgaopaaGreat.Top
open Go.RowKit Go.Shelf Go.Proofs.YtjpibgehhgaopaaGreatW.PrintWords Go.Proofs.YtjpibgehhgaopaaGreatW.PrintLast Go.Proofs.YtjpibgehhgaopaaGreat.PTopGenerated Go.Proofs.YtjpibgehhgaopaaGreat.Rf
attribute [local go_sem] Oper.semAt_some
set_option linter.unusedVariables false
set_option linter.unusedSimpArgs false

set_option maxRecDepth 100000 in
theorem candsN (s : Value) (b : Int) (hs : ∃ sb, s = .pointer (some ⟨sb, 0, none⟩)) (w : World) : Calls Tryz.prog 187 #[s, .int .i64 b] w fun x w' => x = .returned (.func (.func 218) #[] #[.pointer (some ⟨w.heap.size, 0, none⟩), .pointer (some ⟨w.heap.size + 1, 0, none⟩)]) ∧ w' = (w.alloc (.cells #[s] 48)).alloc (.cells #[.int .i64 b] 3) := by
  obtain ⟨sb, rfl⟩ := hs
  go_enter Tryz.func187, Tryz.ntmps187
  go_wp2_with fail
  go_ret
  exact ⟨rfl, rfl⟩
theorem msr_k (k : Nat) (h : k ≤ 20000) : 30000 - (intOf (Value.int .i64 ((k + 1 : Nat) : Int))).toNat < 30000 - (intOf (Value.int .i64 (k : Int))).toNat := by
  simp only [intOf, Int.toNat_natCast]
  omega
set_option maxHeartbeats 2000000 in
set_option maxRecDepth 100000 in
theorem cand_in (n l bs bb sb : Nat) (w : World) (L : List (Nat × Obj)) (is ib : Nat) (Inv : List Nat → Prop) (Jx : World → Prop) (Jp : List PanicEntry → World → Prop)
    (his : L[is]? = some (bs, .cells #[.pointer (some ⟨sb, 0, none⟩)] 48)) (hib : L[ib]? = some (bb, .cells #[.int .i64 64] 3))
    (hY : ∀ (k : Nat) x r A c W m, Inv (x :: r) → x < 18446744073709551616 → Fs sb w W L → SW W sb r → Num W A c [candF x] → YieldAt Fence.wide m Tryz.prog l #[.int .i64 (k : Int), .slice A 1 c] W fun e W' => (e = .returned (.bool true) ∧ ∃ r', r'.length ≤ r.length ∧ Inv r' ∧ Fs sb w W' L ∧ SW W' sb r') ∨ (e = .returned (.bool false) ∧ Jx W') ∨ (∃ ch, e = .panicked ch ∧ Jp ch W'))
    (ws : List Nat) (hI : Inv ws) (W : World) (hW : Fs sb w W L) (hS : SW W sb ws) :
    CallsIn Fence.wide n Tryz.prog 218 #[.func (.yield l) #[] #[], .pointer (some ⟨bs, 0, none⟩), .pointer (some ⟨bb, 0, none⟩)] W fun e W' => (∃ v, e = .returned v ∧ Jx W') ∨ (∃ ch, e = .panicked ch ∧ ((ch = [{ v := .iface 202 (.agg #[.int .i64 150]), recovered := false }] ∧ Inv [] ∧ Fs sb w W' L ∧ SW W' sb []) ∨ Jp ch W')) := by
  have HJ := Aside0.mk hY
  have HL := Aside0.mk (And.intro his hib)
  have H0 := Aside0.mk (And.intro hI (And.intro hW hS))
  have HLen := Aside0.mk hS.len
  clear hY his hib hI hW hS
  refine callsIn_of_wp Tryz.func218 rfl trivial ?_ rfl
  simp only [Tryz.ntmps218, List.size_toArray, List.length_cons, List.length_nil, Nat.reduceAdd, Nat.reduceSub, Array.replicate_succ, Array.replicate_zero, List.push_toArray, List.append_toArray, List.nil_append, List.cons_append]
  gi_wp2_with fail
  gi_loopw [4] (fun v4 wr => ∃ (k : Nat) (ws' : List Nat), v4 = .int .i64 (k : Int) ∧ Aside0 (k + ws'.length ≤ 20000) ∧ Aside0 (Inv ws' ∧ Fs sb w wr L ∧ SW wr sb ws')) (fun v4 _ => 30000 - (intOf v4).toNat)
  case atStart => exact ⟨1, ws, rfl, ⟨by have := HLen.out; omega⟩, H0⟩
  case round =>
    clear H0
    obtain ⟨k, ws', rfl, HK, HS⟩ := hrel
    have t1 : decide ((k : Int) > 100000) = false := by have := HK.out; rw [decide_eq_false_iff_not]; omega
    have g0 : wr.cell? ⟨bs, 0, none⟩ = some (.pointer (some ⟨sb, 0, none⟩)) := HS.out.2.1.cell is HL.out.1 0 rfl
    have g1 : wr.cell? ⟨bb, 0, none⟩ = some (.int .i64 64) := HS.out.2.1.cell ib HL.out.2 0 rfl
    rcases ws' with _ | ⟨x, r⟩
    · have HR := Aside0.mk (read8spent sb wr HS.out.2.2)
      gi_wp2_with fail
      refine ⟨trivial, (fun h => by cases h), ?_⟩
      refine (callsIn_wide.2 HR.out).mono ?_
      rintro e w2 ⟨rfl, hs, hb⟩
      have HE := Aside0.mk (And.intro hs (HS.out.2.1.script hb))
      clear hs hb
      gi_wp2_with fail
      refine ⟨trivial, (fun h => by cases h), ?_⟩
      refine (callsIn_wide.2 (mustDbad 150 (by decide) _)).mono ?_
      rintro e w' ⟨rfl, rfl⟩
      gi_wp2_with fail
      exact ⟨rfl, .inr ⟨_, rfl, .inl ⟨rfl, HS.out.1, HE.out.2, HE.out.1⟩⟩⟩
    · have HR := Aside0.mk (read8 sb x r wr HS.out.2.2)
      gi_wp2_with fail
      refine ⟨trivial, (fun h => by cases h), ?_⟩
      refine (callsIn_wide.2 HR.out).mono ?_
      rintro e w2 ⟨A2, c2, xs, rfl, ho, hxl, hx, hby, hs, hb⟩
      obtain ⟨g, cap, e', _⟩ := ho.form (by omega)
      injection e' with e1 e2 e3
      subst e1
      subst e3
      have hxw : x < 18446744073709551616 := hx ▸ wordOf_lt xs
      have HCd := Aside0.mk (candN (some ⟨g, 0, none⟩) c2 xs w2 (by rw [hxl]; exact own_reads' ho) hxl (by rw [hxl]; exact own_cap ho) hby)
      rw [show (getI xs).toNat = x from hx] at HCd
      have HF2 := Aside0.mk (HS.out.2.1.script hb)
      have HE := Aside0.mk (And.intro hs hxw)
      have g1 : w2.cell? ⟨bb, 0, none⟩ = some (.int .i64 64) := HF2.out.cell ib HL.out.2 0 rfl
      clear ho hxl hx hby hs hb hxw
      gi_wp2_with fail
      refine ⟨trivial, (fun h => by cases h), ?_⟩
      refine (callsIn_wide.2 (mustD _)).mono ?_
      rintro e w' ⟨rfl, rfl⟩
      gi_wp2_with fail
      refine ⟨trivial, (fun h => by cases h), ?_⟩
      refine (callsIn_wide.2 HCd.out).mono ?_
      rintro e w3 ⟨v3, rfl, hr3⟩
      obtain ⟨A3, c3, rfl, hn3⟩ := hr3.num
      have HF3 := Aside0.mk (HF2.out.mv hr3.bel)
      have HS3 := Aside0.mk (HE.out.1.below hr3.bel)
      have HN3 := Aside0.mk hn3
      clear hr3 hn3
      gi_wp2_with fail
      refine ⟨trivial, (fun h => by cases h), ?_⟩
      refine (callsIn_wide.2 (mustD _)).mono ?_
      rintro e w' ⟨rfl, rfl⟩
      obtain ⟨fn, tmps, assign, body, hy, hRd⟩ := HJ.out k x r A3 c3 _ (n - 1) HS.out.1 HE.out.2 HF3.out HS3.out HN3.out
      have w9 : wrap64 ((k : Int) + 1) = ((k + 1 : Nat) : Int) := wrap64_id (by have := HK.out; omega) (by have := HK.out; omega)
      gi_wp2_with fail
      refine ⟨(fun h => by cases h), ?_⟩
      refine hRd.mono ?_
      rintro e W3 hres
      rcases hres with ⟨rfl, r', hrl, hinv, hf, hsw⟩ | ⟨rfl, hj⟩ | ⟨ch, rfl, hj⟩
      · have HX := Aside0.mk (And.intro hinv (And.intro hf hsw))
        clear hinv hf hsw
        gi_wp2_with (fail)
        exact ⟨⟨k + 1, r', by first | rfl | exact congrArg (Value.int .i64) w9, ⟨by have := HK.out; simp at this; omega⟩, HX⟩, by first | exact msr_k k (by have := HK.out; omega) | (rw [w9]; exact msr_k k (by have := HK.out; omega))⟩
      · have HX := Aside0.mk hj
        clear hj
        gi_wp2_with (fail)
        refine bodyPost_ret (results_none rfl _ _ _) rfl ?_
        exact .inl ⟨_, rfl, HX.out⟩
      · have HX := Aside0.mk hj
        clear hj
        gi_wp2_with (fail)
        exact ⟨rfl, .inr ⟨_, rfl, .inr HX.out⟩⟩
end Go.Proofs.YtjpibgehhgaopaaGreat.Top
/- prime's draw, plain. -/
namespace Go.Proofs.YtjpibgehhgaopaaGreat.Top
open Go.RowKit
set_option linter.unusedVariables false
set_option linter.unusedSimpArgs false

theorem roundsW_len {M : Nat} : ∀ (ws : List Nat) (n : Nat) (b : Bool) (r : List Nat), roundsW M n ws = some (b, r) → r.length ≤ ws.length
  | ws, 0, b, r, h => by
    rw [roundsW] at h
    injection h with h
    injection h with _ h
    rw [h]
    exact Nat.le_refl _
  | [], n + 1, b, r, h => by rw [roundsW] at h; cases h
  | x :: s, n + 1, b, r, h => by
    rw [roundsW] at h
    simp only [List.length_cons]
    split at h
    · split at h
      · have := roundsW_len s n b r h
        omega
      · injection h with h
        injection h with _ h
        rw [h]
        omega
    · have := roundsW_len s (n + 1) b r h
      omega
/-- A prime out of words, in so many steps. -/
def drawG (e k : Nat) : Nat → List Nat → Option (Nat × List Nat)
  | 0, _ => none
  | _ + 1, [] => none
  | n + 1, x :: r => if goodF e (candF x) = true then
      match roundsW (candF x) k r with
      | none => none
      | some (true, r') => some (candF x, r')
      | some (false, r') => drawG e k n r'
    else drawG e k n r
theorem drawG_fuel (e k : Nat) : ∀ (n : Nat) (m : Nat) (ws : List Nat), ws.length ≤ n → ws.length ≤ m → drawG e k n ws = drawG e k m ws
  | 0, 0, ws, _, _ => rfl
  | 0, m + 1, ws, h, _ => by
    obtain rfl : ws = [] := List.eq_nil_of_length_eq_zero (by omega)
    rfl
  | n + 1, 0, ws, _, h => by
    obtain rfl : ws = [] := List.eq_nil_of_length_eq_zero (by omega)
    rfl
  | n + 1, m + 1, [], _, _ => rfl
  | n + 1, m + 1, x :: r, h, h' => by
    simp only [List.length_cons] at h h'
    rw [drawG, drawG]
    split
    · rcases hr : roundsW (candF x) k r with _ | ⟨b, r'⟩
      · rfl
      · have hl := roundsW_len _ _ _ _ hr
        cases b
        · exact drawG_fuel e k n m r' (by omega) (by omega)
        · rfl
    · exact drawG_fuel e k n m r (by omega) (by omega)
/-- A prime out of words. -/
def drawW (e k : Nat) (ws : List Nat) : Option (Nat × List Nat) := drawG e k ws.length ws
theorem drawW_bad {e k x : Nat} {r : List Nat} (h : goodF e (candF x) = false) : drawW e k (x :: r) = drawW e k r := by
  show drawG e k (r.length + 1) (x :: r) = _
  rw [drawG, if_neg (by rw [h]; simp)]
  rfl
theorem drawW_none {e k x : Nat} {r : List Nat} (h : goodF e (candF x) = true) (h2 : roundsW (candF x) k r = none) : drawW e k (x :: r) = none := by
  show drawG e k (r.length + 1) (x :: r) = _
  rw [drawG, if_pos h, h2]
theorem drawW_true {e k x : Nat} {r r' : List Nat} (h : goodF e (candF x) = true) (h2 : roundsW (candF x) k r = some (true, r')) : drawW e k (x :: r) = some (candF x, r') := by
  show drawG e k (r.length + 1) (x :: r) = _
  rw [drawG, if_pos h, h2]
theorem drawW_false {e k x : Nat} {r r' : List Nat} (h : goodF e (candF x) = true) (h2 : roundsW (candF x) k r = some (false, r')) : drawW e k (x :: r) = drawW e k r' := by
  show drawG e k (r.length + 1) (x :: r) = _
  rw [drawG, if_pos h, h2]
  exact drawG_fuel e k r.length r'.length r' (roundsW_len _ _ _ _ h2) (Nat.le_refl _)
theorem drawW_nil (e k : Nat) : drawW e k [] = none := rfl
/-- The halvings of a word are few. -/
theorem oddP_pow (d s : Nat) : (oddP d s).1 * 2 ^ (oddP d s).2 = d * 2 ^ s := by
  rw [oddP]
  split
  · rename_i h
    rw [oddP_pow (d / 2) (s + 1), Nat.pow_succ, Nat.mul_comm (2 ^ s) 2, ← Nat.mul_assoc, show d / 2 * 2 = d by omega]
  · rfl
  termination_by d
  decreasing_by omega
theorem oddP_few {d : Nat} (h0 : 0 < d) (h : d < 18446744073709551616) : (oddP d 0).2 ≤ 1000 := by
  have hp := oddP_pow d 0
  rw [Nat.pow_zero, Nat.mul_one] at hp
  have h1 : (oddP d 0).1 ≠ 0 := by
    intro e
    rw [e] at hp
    omega
  have h2 : 1 * 2 ^ (oddP d 0).2 ≤ (oddP d 0).1 * 2 ^ (oddP d 0).2 := Nat.mul_le_mul_right _ (by omega)
  have h3 : 2 ^ (oddP d 0).2 < 2 ^ 64 := by
    rw [show (2 : Nat) ^ 64 = 18446744073709551616 by decide]
    omega
  have := (Nat.pow_lt_pow_iff_right (a := 2) (by omega)).1 h3
  omega
theorem bl_cand {x : Nat} (h : x < 18446744073709551616) : bl (candF x) = 64 := by
  have h1 := candF_ge x
  have h2 := candF_lt h
  exact bl_unique (k := 63) (by rw [show (2 : Nat) ^ 63 = 9223372036854775808 by decide]; omega) (by rw [show (2 : Nat) ^ (63 + 1) = 18446744073709551616 by decide]; omega)
end Go.Proofs.YtjpibgehhgaopaaGreat.Top
/- prime's draw, of 64 bits. -/
namespace Go.Proofs.YtjpibgehhgaopaaGreat.Top
open Go.RowKit Go.Shelf Go.Proofs.YtjpibgehhgaopaaGreatW.PrintWords Go.Proofs.YtjpibgehhgaopaaGreatW.PrintLast Go.Proofs.YtjpibgehhgaopaaGreat.PTopGenerated Go.Proofs.YtjpibgehhgaopaaGreat.Rf
attribute [local go_sem] Oper.semAt_some
set_option linter.unusedVariables false
set_option linter.unusedSimpArgs false

theorem at_seq_k {f : FuncId} {F : Fence} {n : Nat} {P : Program} {x y : Code} {Q : Exit → Act → World → Prop} {a : Act} {w : World} (h : ∀ K : Act → World → Prop, (∀ a w, WpAt f F n P y Q a w → K a w) → WpAt f F n P x (Exit.then K Q) a w) : WpAt f F n P (Code.seq x y) Q a w := at_seq (h _ fun _ _ h => h)
/-- draw's blocks. -/
def DrL (s sb e k : Nat) (pv kv : Value) (r : Loop) : List (Nat × Obj) :=
  [(s, .cells #[.pointer (some ⟨sb, 0, none⟩)] 48), (s + 1, .cells #[.int .u64 (e : Int)] 23), (s + 1 + 1, .cells #[.int .i64 (k : Int)] 3), (s + 1 + 1 + 1, .cells #[pv] 26), (s + 1 + 1 + 1 + 1, .cells #[kv] 3),
   (s + 1 + 1 + 1 + 1 + 1, .cells #[.pointer (some ⟨sb, 0, none⟩)] 48), (s + 1 + 1 + 1 + 1 + 1 + 1, .cells #[.int .i64 64] 3), (s + 1 + 1 + 1 + 1 + 1 + 1 + 1, .deferred (some [])), (s + 1 + 1 + 1 + 1 + 1 + 1 + 1 + 1, .loop r)]
/-- What draw comes to. -/
def DrawP (w : World) (sb e k : Nat) (ws : List Nat) (en : Ending) (w' : World) : Prop :=
  (∃ p r A c j, drawW e k ws = some (p, r) ∧ en = .returned (.tuple #[.slice A 1 c, .int .i64 j]) ∧ Num w' A c [p] ∧ SW w' sb r ∧ But sb w w') ∨
  (drawW e k ws = none ∧ en = .panicked [{ v := .iface 202 (.agg #[.int .i64 150]), recovered := false }] ∧ SW w' sb [] ∧ But sb w w')
set_option maxHeartbeats 2000000 in
set_option maxRecDepth 100000 in
theorem drawN (w : World) (sb e k : Nat) (ws : List Nat) (hs : SW w sb ws) (he : e ≠ 0) (he2 : e < 18446744073709551616) (hk : k ≤ 100) :
    Calls Tryz.prog 151 #[.pointer (some ⟨sb, 0, none⟩), .int .i64 64, .int .u64 (e : Int), .int .i64 (k : Int)] w (DrawP w sb e k ws) := by
  obtain ⟨s, hsz0⟩ : ∃ s, s = w.heap.size := ⟨_, rfl⟩
  have H0 := Aside0.mk (fun r => ((((((((((Fs.nil w hs.lt).alloc (.cells #[.pointer (some ⟨sb, 0, none⟩)] 48)).alloc (.cells #[.int .u64 (e : Int)] 23)).alloc (.cells #[.int .i64 (k : Int)] 3)).alloc (.cells #[.slice none 0 0] 26)).alloc (.cells #[.int .i64 0] 3)).alloc (.cells #[.pointer (some ⟨sb, 0, none⟩)] 48)).alloc (.cells #[.int .i64 64] 3)).alloc (.deferred (some []))).alloc (.loop r)))
  simp only [World.size_alloc, ← hsz0, List.nil_append, List.cons_append] at H0
  have HSW := Aside0.mk hs
  clear hs
  refine (callsIn_wide (n := 3)).1 ?_
  refine calls_of_at Tryz.func151 rfl ?_
  simp only [Tryz.ntmps151, List.size_toArray, List.length_cons, List.length_nil, Nat.reduceAdd, Nat.reduceSub, Array.replicate_succ, Array.replicate_zero, List.push_toArray, List.append_toArray, List.nil_append, List.cons_append]
  refine at_seq_k fun K hK => ?_
  refine at_of_wpIn (wpIn_wide.2 ?_)
  go_wp2_with fail
  refine at_seq_k fun K9 hK9 => ?_
  refine at_seq_k fun K hK => ?_
  refine at_of_wpIn (wpIn_wide.2 ?_)
  go_wp2_with fail
  refine (candsN _ _ ⟨sb, rfl⟩ _).mono ?_
  rintro e w4 ⟨rfl, rfl⟩
  go_wp2_with fail
  rw [← hsz0]
  obtain ⟨wl, hwl⟩ : ∃ wl, wl = ((((((w.alloc (.cells #[.pointer (some ⟨sb, 0, none⟩)] 48)).alloc (.cells #[.int .u64 (e : Int)] 23)).alloc (.cells #[.int .i64 (k : Int)] 3)).alloc (.cells #[.slice none 0 0] 26)).alloc (.cells #[.int .i64 0] 3)).alloc (.cells #[.pointer (some ⟨sb, 0, none⟩)] 48)).alloc (.cells #[.int .i64 64] 3) := ⟨_, rfl⟩
  have hsz : wl.heap.size = s + 1 + 1 + 1 + 1 + 1 + 1 + 1 := by rw [hwl, hsz0]; simp
  rw [← hwl] at H0 ⊢
  change Aside0 (∀ r, Fs sb w ((wl.alloc (.deferred (some []))).alloc (.loop r)) (DrL s sb e k (.slice none 0 0) (.int .i64 0) r)) at H0
  have HSW2 := Aside0.mk (show ∀ r, SW ((wl.alloc (.deferred (some []))).alloc (.loop r)) sb ws from fun r => HSW.out.below (by
    rw [hwl]
    repeat (first | exact Below.refl _ _ | apply below_alloc)))
  clear hwl hsz0
  refine at_block ?_
  refine at_rangeFunc (gf := 218) (lb := #[.pointer (some ⟨s + 1 + 1 + 1 + 1 + 1, 0, none⟩), .pointer (some ⟨s + 1 + 1 + 1 + 1 + 1 + 1, 0, none⟩)]) rfl (enters_of Tryz.func218 (by kernel_rfl) rfl)
    (fun W => False) (fun cd W => cd = .ret ∧ ∃ p r A c j rl, drawW e k ws = some (p, r) ∧ Fs sb w W (DrL s sb e k (.slice A 1 c) (.int .i64 j) rl) ∧ SW W sb r ∧ Num W A c [p])
    (fun ch W => ch = [{ v := .iface 202 (.agg #[.int .i64 150]), recovered := false }] ∧ drawW e k ws = none ∧ SW W sb [] ∧ ∃ rl, Fs sb w W (DrL s sb e k (.slice none 0 0) (.int .i64 0) rl)) ?call ?done ?stop ?bad
  case call =>
    intro rec hrec
    rw [hsz]
    refine (cand_in 2 (s + 1 + 1 + 1 + 1 + 1 + 1 + 1 + 1) (s + 1 + 1 + 1 + 1 + 1) (s + 1 + 1 + 1 + 1 + 1 + 1) sb w (DrL s sb e k (.slice none 0 0) (.int .i64 0) (rec .ready none)) 5 6 (fun ws' => drawW e k ws' = drawW e k ws)
      (fun W => ∃ p r A c j, drawW e k ws = some (p, r) ∧ Fs sb w W (DrL s sb e k (.slice A 1 c) (.int .i64 j) (rec .done (some .ret))) ∧ SW W sb r ∧ Num W A c [p])
      (fun ch W => ch = [{ v := .iface 202 (.agg #[.int .i64 150]), recovered := false }] ∧ drawW e k ws = none ∧ SW W sb [] ∧ ∃ rl, Fs sb w W (DrL s sb e k (.slice none 0 0) (.int .i64 0) rl)) rfl rfl ?_ ws rfl _ (H0.out _) (HSW2.out _)).mono ?_
    · intro j x r A c W m hI hx hf hsw hn
      have HF0 := Aside0.mk (And.intro hf (And.intro hsw hn))
      clear hf hsw hn
      refine yield_panics hrec ⟨_, Tryz.func151⟩ (HF0.out.1.at 8 rfl) rfl ?_
      gi_wp2_with fail
      refine ⟨HF0.out.1.at 8 rfl, ?_⟩
      have hat := HF0.out.1.at 8 rfl
      have HF := Aside0.mk (And.intro (HF0.out.1.put 8 rfl (.loop (rec .busy none))) (And.intro (HF0.out.2.1.kb (Kb.put hat rfl (.loop (rec .busy none)))) (HF0.out.2.2.kp (Kp.put hat rfl (.loop (rec .busy none))))))
      obtain ⟨Wb, hWb⟩ : ∃ Wb, Wb = W.putObj (s + 1 + 1 + 1 + 1 + 1 + 1 + 1 + 1) (.loop (rec .busy none)) := ⟨_, rfl⟩
      rw [← hWb] at HF ⊢
      clear hWb HF0 hat
      have g1 : Wb.cell? ⟨s + 1, 0, none⟩ = some (.int .u64 (e : Int)) := HF.out.1.cell 1 rfl 0 rfl
      have hge := candF_ge x
      have HGd := Aside0.mk (goodN A c (candF x) e Wb HF.out.2.2 (by omega) he he2)
      gi_wp2_with fail
      refine ⟨trivial, (fun h => by cases h), ?_⟩
      refine ((callsIn_wide.2 HGd.out).inRound _).mono ?_
      rintro en w5 ⟨rfl, hb5⟩
      have HF5 := Aside0.mk (And.intro (HF.out.1.mv hb5) (And.intro (HF.out.2.1.below hb5) (HF.out.2.2.below hb5)))
      have HI := Aside0.mk hI
      clear hb5 HF HGd g1 hge hI
      rcases hg : goodF e (candF x) with _ | _
      · have HD := Aside0.mk (show drawW e k r = drawW e k ws by rw [← HI.out]; exact (drawW_bad hg).symm)
        clear hg
        gi_wp2_with fail
        have hat := HF5.out.1.at 8 rfl
        exact ⟨hat, .inl ⟨rfl, r, Nat.le_refl _, HD.out, HF5.out.1.put 8 rfl _, HF5.out.2.1.kb (Kb.put hat rfl _)⟩⟩
      · have HGo := Aside0.mk hg
        clear hg
        have x0 : w5.cell? ⟨s, 0, none⟩ = some (.pointer (some ⟨sb, 0, none⟩)) := HF5.out.1.cell 0 rfl 0 rfl
        have x2 : w5.cell? ⟨s + 1 + 1, 0, none⟩ = some (.int .i64 (k : Int)) := HF5.out.1.cell 2 rfl 0 rfl
        have HRo := Aside0.mk (roundsN w5 sb (candF x) k A c r HF5.out.2.1 HF5.out.2.2 (candF_odd x) (by have := candF_ge x; omega) (bl_cand hx) hk (oddP_few (by have := candF_ge x; omega) (by have := candF_lt hx; omega)))
        gi_wp2_with fail
        refine ⟨trivial, (fun h => by cases h), ?_⟩
        refine ((callsIn_wide.2 HRo.out).inRound _).mono ?_
        intro en w6 hro
        rcases hro with ⟨is, r', v, hrw, rfl, hsw, hbt⟩ | ⟨hrw, rfl, hsw, hbt⟩
        · have HF6 := Aside0.mk (And.intro (HF5.out.1.script hbt) (And.intro hsw (HF5.out.2.2.kp (HF5.out.2.1.kp hbt))))
          have HRW := Aside0.mk hrw
          clear hrw hsw hbt
          gi_wp2_with fail
          refine ⟨trivial, (fun h => by cases h), ?_⟩
          refine ((callsIn_wide.2 (mustD _)).inRound _).mono ?_
          rintro en w' ⟨rfl, rfl⟩
          cases is
          · gi_wp2_with fail
            have hat := HF6.out.1.at 8 rfl
            exact ⟨hat, .inl ⟨rfl, r', roundsW_len _ _ _ _ HRW.out, by rw [← HI.out]; exact (drawW_false HGo.out HRW.out).symm, HF6.out.1.put 8 rfl _, HF6.out.2.1.kb (Kb.put hat rfl _)⟩⟩
          · have y3 : w'.cell? ⟨s + 1 + 1 + 1, 0, none⟩ = some (.slice none 0 0) := HF6.out.1.cell 3 rfl 0 rfl
            have f3 := HF6.out.1.frozen 3 rfl 0
            have HF7 := Aside0.mk (HF6.out.1.set_ 3 rfl 0 (.slice A 1 c))
            have y4 := HF7.out.cell 4 rfl 0 rfl
            have f4 := HF7.out.frozen 4 rfl 0
            have HF8 := Aside0.mk (HF7.out.set_ 4 rfl 0 (.int .i64 (j : Int)))
            have HS8 := Aside0.mk ((HF6.out.2.1.kb (Kb.set_ (HF6.out.1.at 3 rfl) (by decide) 0 (.slice A 1 c))).kb (Kb.set_ (HF7.out.at 4 rfl) (by decide) 0 (.int .i64 (j : Int))))
            have HN8 := Aside0.mk ((HF6.out.2.2.kp (HF6.out.1.kp_set 3 rfl (by decide) 0 (.slice A 1 c))).kp (HF7.out.kp_set 4 rfl (by decide) 0 (.int .i64 (j : Int))))
            gi_wp2_with fail
            have hat := HF8.out.at 8 rfl
            exact ⟨hat, .inr (.inl ⟨rfl, candF x, r', A, c, _, by rw [← HI.out]; exact drawW_true HGo.out HRW.out, HF8.out.put 8 rfl _, HS8.out.kb (Kb.put hat rfl _), HN8.out.kp (Kp.put hat rfl _)⟩)⟩
        · have HF6 := Aside0.mk (And.intro (HF5.out.1.script hbt) hsw)
          have HRW := Aside0.mk hrw
          clear hrw hsw hbt
          gi_wp2_with fail
          refine ⟨trivial, (fun h => by cases h), ?_⟩
          refine ((callsIn_wide.2 (mustDbad 150 (by decide) _)).inRound _).mono ?_
          rintro en w' ⟨rfl, rfl⟩
          gi_wp2_with fail
          exact ⟨rfl, .inr (.inr ⟨_, rfl, rfl, by rw [← HI.out]; exact drawW_none HGo.out HRW.out, HF6.out.2, _, HF6.out.1⟩)⟩
    · rintro en W hres
      rcases hres with ⟨v, rfl, p, r, A, c, j, h1, h2, h3, h4⟩ | ⟨ch, rfl, ⟨rfl, h1, h2, h3⟩ | h⟩
      · exact .inl ⟨⟨_, rfl⟩, .inr ⟨.ret, h2.at 8 rfl, rfl, p, r, A, c, j, _, h1, h2, h3, h4⟩⟩
      · exact .inr ⟨_, rfl, rfl, by rw [← h1]; exact drawW_nil _ _, h3, _, h2⟩
      · exact .inr ⟨_, rfl, h⟩
  case done => rintro W o h; exact h.elim
  case stop =>
    rintro cd W o ⟨rfl, p, r, A, c, j, rl, h1, h2, h3, h4⟩ hlo o'
    rw [hsz] at hlo ⊢
    have hat := h2.at 8 rfl
    have HF := Aside0.mk (And.intro (h2.put 8 rfl (.loop o')) (And.intro (h3.kb (Kb.put hat rfl (.loop o'))) (h4.kp (Kp.put hat rfl (.loop o')))))
    obtain ⟨Wb, hWb⟩ : ∃ Wb, Wb = W.putObj (s + 1 + 1 + 1 + 1 + 1 + 1 + 1 + 1) (.loop o') := ⟨_, rfl⟩
    rw [← hWb] at HF ⊢
    clear hWb h2 h3 h4 hlo hat
    gi_wp2_with fail
    refine ⟨by simp, .inl ⟨_, _, rfl, run_takeDeferred (HF.out.1.at 7 rfl), ?_⟩⟩
    have HD := HF.out.1.put 7 rfl (.deferred none)
    have hat7 := HF.out.1.at 7 rfl
    refine ⟨.tuple #[.slice A 1 c, .int .i64 j], ?_, .inl ⟨p, r, A, c, j, h1, rfl, HF.out.2.2.kp (Kp.put hat7 rfl _), HF.out.2.1.kb (Kb.put hat7 rfl _), HD.bel⟩⟩
    have q4 := HD.cell 3 rfl 0 rfl
    have q5 := HD.cell 4 rfl 0 rfl
    simp [results, Tryz.f151, go_sem, q4, q5]
  case bad =>
    rintro ch W ⟨rfl, h1, h2, rl, h3⟩
    rw [hsz]
    have hat7 := h3.at 7 rfl
    have HD := h3.put 7 rfl (.deferred none)
    show LeavesInM _ _ _ _ _ _ _ _ _
    refine ⟨by simp, .inl ⟨_, _, rfl, run_takeDeferred hat7, ?_⟩⟩
    exact .inr ⟨h1, rfl, h2.kb (Kb.put hat7 rfl _), HD.bel⟩
end Go.Proofs.YtjpibgehhgaopaaGreat.Top
