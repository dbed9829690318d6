/- product's long2: the walk, by two words. -/
import Derived.Lib.AppendZeros
import Derived.Test.YtjpibgehhgaopaaGreatZ17
namespace Go.Proofs.YtjpibgehhgaopaaGreat.Top
open Go.RowKit Go.Proofs.YtjpibgehhgaopaaGreatW.PrintWords Go.Proofs.YtjpibgehhgaopaaGreatW.PrintLast Go.Proofs.YtjpibgehhgaopaaGreat.PTopGenerated
set_option linter.unusedVariables false
set_option linter.unusedSimpArgs false

/-- What is known of long2's divisor: its value, how far it is shifted, the words of what it is then. -/
structure Dv (m : List Nat) (M s V v0 v1 : Nat) : Prop where
  eM : M = val m
  len : m.length = 2
  eS : s = 64 - Lib.bitLen (m.getD 1 0)
  s64 : s < 64
  eV : V = M * 2 ^ s
  top : m.getD 1 0 < 18446744073709551616
  pos : 0 < M
  lt : V < 18446744073709551616 ^ 2
  e0 : v0 = V % 18446744073709551616
  e1 : v1 = V / 18446744073709551616
  v1p : 0 < v1
  v1w : v1 < 18446744073709551616
  Vp : 0 < V
theorem Dv.mk' (m : List Nat) (hw : W64 m) (h2 : m.length = 2) (h1 : m.getD 1 0 ≠ 0) : ∃ M s V v0 v1, Dv m M s V v0 v1 := by
  obtain ⟨a, b, c, d⟩ := lead_top (m.getD 1 0) (Nat.pos_of_ne_zero h1) (getD_w hw 1)
  have hx := getD_w hw 0
  have hv : val m = m.getD 0 0 + 18446744073709551616 * m.getD 1 0 := by
    rw [two_words m h2]
    simp [val]
  have hs64 : 64 - Lib.bitLen (m.getD 1 0) < 64 := by omega
  have hty := getD_w hw 1
  obtain ⟨s, hs⟩ : ∃ s, s = 64 - Lib.bitLen (m.getD 1 0) := ⟨_, rfl⟩
  rw [← hs] at a b hs64
  have hpw : (18446744073709551616 : Nat) = 2 ^ (64 - s) * 2 ^ s := by rw [← Nat.pow_add, show 64 - s + s = 64 by omega]
  have hlt : val m * 2 ^ s < 18446744073709551616 ^ 2 := by
    have hp : 0 < 2 ^ s := Nat.pow_pos (by omega)
    have h3 : m.getD 1 0 < 2 ^ (64 - s) := by
      rw [hpw] at b
      exact Nat.lt_of_mul_lt_mul_right b
    have h4 : val m < 18446744073709551616 * 2 ^ (64 - s) := by
      rw [hv]
      have : 18446744073709551616 * (m.getD 1 0 + 1) ≤ 18446744073709551616 * 2 ^ (64 - s) := Nat.mul_le_mul_left _ h3
      omega
    have h5 := Nat.mul_lt_mul_of_pos_right h4 hp
    rw [Nat.mul_assoc, ← hpw, ← Nat.pow_two] at h5
    exact h5
  have hv1 : 0 < val m * 2 ^ s / 18446744073709551616 := by
    rw [Nat.div_pos_iff]
    refine ⟨by omega, ?_⟩
    rw [hv, Nat.add_mul, Nat.mul_assoc]
    have : 18446744073709551616 * 1 ≤ 18446744073709551616 * (m.getD 1 0 * 2 ^ s) := Nat.mul_le_mul_left _ (by omega)
    omega
  exact ⟨val m, s, val m * 2 ^ s, _, _, rfl, h2, hs, hs64, rfl, hty, by rw [hv]; omega, hlt, rfl, rfl, hv1, by rw [Nat.div_lt_iff_lt_mul (by omega), ← Nat.pow_two]; exact hlt, Nat.mul_pos (by rw [hv]; omega) (Nat.pow_pos (by omega))⟩
theorem val3 (l : List Nat) (j : Nat) (h : j + 3 ≤ l.length) : val ((l.drop j).take 3) = l.getD j 0 + 18446744073709551616 * (l.getD (j + 1) 0 + 18446744073709551616 * l.getD (j + 2) 0) := by
  have e : ∀ i, i < l.length → l.getD i 0 = l[i]! := fun i hi => by simp [List.getD, hi]
  rw [List.drop_eq_getElem_cons (by omega), List.drop_eq_getElem_cons (by omega), List.drop_eq_getElem_cons (by omega)]
  rw [List.take_succ_cons, List.take_succ_cons, List.take_succ_cons, List.take_zero]
  simp only [val, List.getD]
  rw [List.getElem?_eq_getElem (by omega), List.getElem?_eq_getElem (by omega), List.getElem?_eq_getElem (by omega)]
  simp
theorem u64_pred {g : Nat} (h1 : 1 ≤ g) (hw : g < 18446744073709551616) : IntKind.u64.wrap ((g : Int) - 1) = ((g - 1 : Nat) : Int) := by
  rw [IntKind.wrap_u64]; omega
def rowAt (rl : List Nat) (r0 r1 : Nat) : Nat → List Nat
  | 0 => rl
  | 1 => rl.set 0 r0
  | _ => (rl.set 0 r0).set 1 r1
theorem getD_left (l r : List Nat) (i : Nat) (h : i < l.length) : (l ++ r).getD i 0 = l.getD i 0 := by
  rw [List.getD_eq_getElem?_getD, List.getElem?_append_left h, List.getD_eq_getElem?_getD]
theorem take_two {V : Nat} (h : V < 18446744073709551616 ^ 2) : val ((digs 3 V).take 2) = V := by
  rw [show (digs 3 V).take 2 = digs 2 V from rfl, val_digs, Nat.mod_eq_of_lt h]
theorem mid_row (ul : List Nat) (z j : Nat) (h : j + 3 ≤ ul.length) : ((ul ++ List.replicate z 0).drop j).take 3 = (ul.drop j).take 3 ∧
    ∀ d : List Nat, (ul ++ List.replicate z 0).take j ++ d ++ (ul ++ List.replicate z 0).drop (j + 3) = (ul.take j ++ d ++ ul.drop (j + 3)) ++ List.replicate z 0 := by
  refine ⟨?_, fun d => ?_⟩
  · rw [List.drop_append_of_le_length (by omega), List.take_append_of_le_length (by simp; omega)]
  · rw [List.take_append_of_le_length (by omega), List.drop_append_of_le_length (by omega)]
    simp [List.append_assoc]
set_option maxHeartbeats 4000000 in
set_option maxRecDepth 100000 in
theorem long2N (gq gr : Nat) (A Am : Option Addr) (c cm lm la : Nat) (a m : List Nat) (w0 w : World) (hF : Fr w0 w [(gq, rowO (List.replicate la 0)), (gr, rowO (List.replicate (lm + 2) 0))])
    (ha : Num w0 A c a) (hm : Num w0 Am cm m) (h2 : m.length = 2) (h1 : m.getD 1 0 ≠ 0) (hla : a.length = la) (hla1 : 1 ≤ la) (hla2 : la ≤ 300) (hlm : lm ≤ 300) :
    Calls Tryz.prog 135 #[.slice (some ⟨gq, 0, none⟩) la la, .slice (some ⟨gr, 0, none⟩) (lm + 2) (lm + 2), .slice A la c, .slice Am 2 cm] w fun e w' => e = .returned (.tuple #[]) ∧
      Fr w0 w' [(gq, rowO (digs la (val a / val m))), (gr, rowO (digs (lm + 2) (val a % val m)))] := by
  obtain ⟨M, s, V, v0, v1, hD⟩ := Dv.mk' m hm.w64 h2 h1
  have HD := Aside0.mk hD
  have HF := Aside0.mk hF
  have HN := Aside0.mk (And.intro ha (And.intro hm hla))
  have hs64 := hD.s64
  obtain ⟨am, rfl, hcm⟩ := (hm.fr hF).at_ 1 (by omega)
  have HLead := Aside0.mk (lead64N (m.getD 1 0) w hD.top)
  rw [← hD.eS] at HLead
  have HShm := Aside0.mk (shiftedB (some am) cm m s w (hm.fr hF) (by omega) hs64)
  rw [h2, ← hD.eM, ← hD.eV] at HShm
  have HSha := Aside0.mk (fun W h => shiftedB A c a s W h (by omega) hs64)
  rw [hla] at HSha
  generalize m.getD 1 0 = m1 at *
  simp [Addr.add] at hcm
  clear hD hF ha hm h2 h1 hla
  go_enter Tryz.func135, Tryz.ntmps135
  go_wp2_with fail
  refine HLead.out.mono ?_
  rintro e w' ⟨rfl, rfl⟩
  go_wp2_with fail
  refine HShm.out.mono ?_
  rintro e w1 ⟨gv, rfl, hf1⟩
  have HF1 := Aside0.mk (HF.out.join hf1)
  simp only [List.cons_append, List.nil_append] at HF1
  clear hf1 HF HLead HShm
  go_wp2_with fail
  refine (HSha.out _ (HN.out.1.fr HF1.out)).mono ?_
  rintro e w2 ⟨gu0, rfl, hf2⟩
  have HF2 := Aside0.mk ((HF1.out.join hf2).alloc (rowO [0]))
  simp only [List.cons_append, List.nil_append] at HF2
  obtain ⟨z, cu, hcu, hap⟩ := appendFull _ gu0 w2.heap.size 0 (digs (la + 1) (val a * 2 ^ s)) (HF2.out.at 3 rfl) (HF2.out.at 4 rfl) (by simp; omega)
  rw [digs_length, show la + 1 + 1 = la + 2 from rfl] at hap hcu
  have HF3 := Aside0.mk ((HF2.out.drewN 1).alloc (rowO (digs (la + 1) (val a * 2 ^ s) ++ [0] ++ List.replicate z 0)))
  simp only [List.cons_append, List.nil_append, World.size_alloc] at HF3
  rw [show rowO [0] = Obj.cells #[.int .u64 0] 23 from rfl] at hap HF3
  have hL := L2.first (a := a) (M := M) (s := s) HN.out.1.w64 HD.out.pos hs64
  rw [HN.out.2.2, ← HD.out.eV] at hL
  obtain ⟨A', hA'⟩ : ∃ A', A' = val a * 2 ^ s := ⟨_, rfl⟩
  rw [← hA'] at hL hap HF3
  have HA' := Aside0.mk hA'
  generalize digs (la + 1) A' ++ [0] = ul0 at *
  have HL := Aside0.mk hL
  obtain ⟨row, hrow⟩ : ∃ row, row = ul0 ++ List.replicate z 0 := ⟨_, rfl⟩
  rw [← hrow] at hap HF3
  have hgs : ((w2.alloc (Obj.cells #[Value.int IntKind.u64 0] 23)).drewN 1).heap.size = w2.heap.size + 1 := World.size_alloc _ _
  rw [hgs] at HF3
  have HF4 := Aside0.mk (HF3.out.sub (L' := [(gq, rowO (List.replicate la 0)), (gr, rowO (List.replicate (lm + 2) 0)), (gv, rowO (digs 3 V)), (w2.heap.size + 1, rowO row)]) (.cons_cons _ (.cons_cons _ (.cons_cons _ (.cons _ (.cons _ (.cons_cons _ .slnil)))))))
  change Aside0 (Fr w0 ((w2.alloc (Obj.cells #[Value.int IntKind.u64 0] 23)).alloc (rowO row)).drew _) at HF4
  have HCU := Aside0.mk hcu
  have HAP := Aside0.mk hap
  have tl : decide ((la : Int) + 2 < 3) = false := by rw [decide_eq_false_iff_not]; omega
  have HROW := Aside0.mk hrow
  clear HF2 HF1 HF3 hgs hap hA' hL hcu hrow hf2
  go_wp2_with (at_builtin; refine Lib.wpList_append_run _ rfl _ _ _ _ rfl _ _ rfl rfl _ _ HAP.out ?_)
  obtain ⟨gu, hgu⟩ : ∃ gu, gu = w2.heap.size + 1 := ⟨_, rfl⟩
  obtain ⟨wl, hwl⟩ : ∃ wl, wl = ((w2.alloc (Obj.cells #[Value.int IntKind.u64 0] 23)).alloc (rowO row)).drew := ⟨_, rfl⟩
  rw [← hgu, ← hwl] at HF4
  rw [← hgu, ← hwl]
  rw [HROW.out] at HF4
  clear HAP hgu hwl HROW HSha
  go_loopw [11] (fun v11 wr => v11 = .slice (some ⟨gu, 0, none⟩) (la + 2) cu ∧ Aside0 (wr = wl)) (fun _ _ => 0)
  case atStart => exact ⟨rfl, ⟨rfl⟩⟩
  case round =>
    obtain ⟨rfl, HW⟩ := hrel
    obtain rfl := HW.out
    go_wp2_with fail
    clear tl hcm
    go_loopw [12] (fun v12 wr => ∃ (j : Nat) (ul ql : List Nat), v12 = .int .i64 ((j : Int) - 1) ∧ Aside0 (L2 A' V la j ul ql) ∧ Aside0 (Fr w0 wr [(gq, rowO ql), (gr, rowO (List.replicate (lm + 2) 0)), (gv, rowO (digs 3 V)), (gu, rowO (ul ++ List.replicate z 0))])) (fun v12 _ => (intOf v12 + 1).toNat)
    case atStart => exact ⟨la, ul0, _, rfl, HL, HF4⟩
    case round =>
      clear HF4 HL HW
      obtain ⟨j, ul, ql, rfl, HL, HF⟩ := hrel
      rcases j with _ | j
      · rw [show ((0 : Nat) : Int) - 1 = -1 from rfl]
        have t2 : decide ((-1 : Int) ≥ 0) = false := by decide
        obtain ⟨hq, hr⟩ := HL.out.last
        have hp : 0 < 2 ^ s := Nat.pow_pos (by omega)
        rw [HA'.out, HD.out.eV] at hq hr
        rw [Nat.mul_div_mul_right _ _ hp] at hq
        rw [Nat.mul_mod_mul_right] at hr
        obtain ⟨R, hR⟩ : ∃ R, R = val a % M := ⟨_, rfl⟩
        rw [← hR] at hr
        have hRl : R * 2 ^ s < 18446744073709551616 ^ 2 := by
          refine Nat.lt_of_le_of_lt (Nat.mul_le_mul_right _ (Nat.le_of_lt (show R < M from hR ▸ Nat.mod_lt _ HD.out.pos))) ?_
          rw [← HD.out.eV]; exact HD.out.lt
        have hsm := val_small (n := 2) (l := ul) (by rw [hr]; exact hRl) (by have := HL.out.ulen; omega) HL.out.uw
        have h2w : ul.take 2 = [ul.getD 0 0, ul.getD 1 0] := by
          have h := two_words (ul.take 2) (by have := HL.out.ulen; simp; omega)
          rw [h]
          simp [List.getD, List.getElem?_take]
        rw [h2w, hr] at hsm
        have hsum : ul.getD 0 0 + 18446744073709551616 * ul.getD 1 0 = R * 2 ^ s := by rw [← hsm.2]; simp [val]
        obtain ⟨f1, f2, f3⟩ := two_right hs64 (getD_w HL.out.uw 0) hsum
        have hul := HL.out.ulen
        have HCOL := Aside0.mk (show ∀ rl W, Fr w0 W [(gq, rowO ql), (gr, rowO rl), (gv, rowO (digs 3 V)), (gu, rowO (ul ++ List.replicate z 0))] → W.cell? ⟨gu, 0, none⟩ = some (.int .u64 ((ul.getD 0 0 : Nat) : Int)) ∧ W.cell? ⟨gu, 1, none⟩ = some (.int .u64 ((ul.getD 1 0 : Nat) : Int)) from fun rl W h => ⟨by rw [h.rowcell 3 rfl 0 (by simp; omega), getD_left ul _ 0 (by omega)], by rw [h.rowcell 3 rfl 1 (by simp; omega), getD_left ul _ 1 (by omega)]⟩)
        have hu1w := getD_w HL.out.uw 1
        have hRM : R < 18446744073709551616 ^ 2 := Nat.lt_of_le_of_lt (Nat.le_mul_of_pos_right _ hp) hRl
        have HFIN := Aside0.mk (show ql = digs la (val a / val m) ∧ digs (lm + 2) (val a % val m) = ((List.replicate (lm + 2) 0).set 0 (R % 18446744073709551616)).set 1 (R / 18446744073709551616) from ⟨by rw [hq, HD.out.eM], by rw [← HD.out.eM, ← hR, digs_two lm R hRM, List.replicate_succ, List.replicate_succ]; rfl⟩)
        have hor : ∀ hs : 0 < s, Go.bits .or .u64 ((ul.getD 0 0 / 2 ^ s : Nat) : Int) (IntKind.u64.wrap (((ul.getD 1 0 : Nat) : Int) * 2 ^ (64 - s))) = ((R % 18446744073709551616 : Nat) : Int) := fun hs => by
          rw [or_shl f3 hu1w (by omega), f1]
        generalize ul.getD 0 0 = u0 at *
        generalize ul.getD 1 0 = u1 at *
        have HOR := Aside0.mk (And.intro hor (And.intro f1 f2))
        have bu0 : (0 : Int) < (la : Int) + 2 := by omega
        have bu1 : (1 : Int) < (la : Int) + 2 := by omega
        have br0 : (0 : Int) < (lm : Int) + 2 := by omega
        have br1 : (1 : Int) < (lm : Int) + 2 := by omega
        clear hq hr hp hR hRl hsm h2w hsum f1 f2 f3 hul hu1w hRM hor
        have HFF := Aside0.mk HF.out
        obtain ⟨r0, hr0⟩ : ∃ r0, r0 = R % 18446744073709551616 := ⟨_, rfl⟩
        obtain ⟨r1, hr1⟩ : ∃ r1, r1 = R / 18446744073709551616 := ⟨_, rfl⟩
        rw [← hr0, ← hr1] at HFIN HOR
        obtain ⟨rl0, hrl0⟩ : ∃ rl0, rl0 = List.replicate (lm + 2) 0 := ⟨_, rfl⟩
        rw [← hrl0] at HFIN HF
        have HRL := Aside0.mk (show rl0.length = lm + 2 by rw [hrl0]; simp)
        clear hr0 hr1 hrl0
        go_wp2_with fail
        go_loopw [107] (fun v107 wr => ∃ i : Nat, v107 = .int .i64 (i : Int) ∧ Aside0 (i ≤ 2) ∧ Aside0 (Fr w0 wr [(gq, rowO ql), (gr, rowO (rowAt rl0 r0 r1 i)), (gv, rowO (digs 3 V)), (gu, rowO (ul ++ List.replicate z 0))])) (fun v107 _ => 2 - (intOf v107).toNat)
        case atStart => exact ⟨0, rfl, ⟨by omega⟩, HF⟩
        case round =>
          clear HF HFF
          obtain ⟨i, rfl, HI, HF⟩ := hrel
          have hi2 := HI.out
          obtain rfl | rfl | rfl : i = 0 ∨ i = 1 ∨ i = 2 := by omega
          all_goals clear hi2
          all_goals simp only [rowAt] at HF
          · obtain ⟨c0, c1⟩ := HCOL.out _ _ HF.out
            have d0 := HF.out.rowcell 1 rfl 0 (by have := HRL.out; omega)
            have e0 := HF.out.rowfrozen 1 rfl 0
            generalize rl0.getD 0 0 = y0 at *
            have HF1 := Aside0.mk (HF.out.rowset 1 rfl 0 (u0 / 2 ^ s))
            simp only [List.set] at HF1
            by_cases hs0 : s = 0
            · have t3 : decide (0 < s) = false := by rw [decide_eq_false_iff_not]; omega
              have HS0 := Aside0.mk hs0
              have HR0 := Aside0.mk (show r0 = u0 / 2 ^ s by rw [← HOR.out.2.1, hs0, Nat.sub_zero, Nat.mul_mod_left, Nat.add_zero])
              clear hs0
              go_wp2_with fail
              refine ⟨⟨1, rfl, ⟨by omega⟩, ⟨?_⟩⟩, by decide⟩
              have h := HF1.out
              rw [← HR0.out] at h
              rw [show (u0 : Int) / 2 ^ s = (r0 : Int) by rw [HR0.out]; simp]
              exact h
            · have t3 : decide (0 < s) = true := by rw [decide_eq_true_eq]; omega
              have HS0 := Aside0.mk (Nat.pos_of_ne_zero hs0)
              clear hs0
              go_upto_region 21 with (fail)
              rw [show (u0 : Int) / 2 ^ s = ((u0 / 2 ^ s : Nat) : Int) by simp]
              have hor := HOR.out.1 HS0.out
              generalize u0 / 2 ^ s = q0 at *
              obtain ⟨wk, hwk⟩ : ∃ wk, wk = wr.setCell ⟨gr, 0, none⟩ (.int .u64 (q0 : Int)) := ⟨_, rfl⟩
              rw [← hwk] at HF1 ⊢
              clear hwk c0 c1 d0 e0 HF
              have k0 := HF1.out.rowcell 1 rfl 0 (by have := HRL.out; simp; omega)
              rw [show (rl0.set 0 q0).getD 0 0 = q0 from getD_set_eq (by have := HRL.out; omega)] at k0
              have k1 := (HCOL.out _ _ HF1.out).2
              have e0 := HF1.out.rowfrozen 1 rfl 0
              have n2 : (64 - (s : Int)).toNat = 64 - s := by omega
              have n3 : (0 : Int) ≤ 64 - (s : Int) := by omega
              have w2 : IntKind.i64.wrap (64 - (s : Int)) = 64 - (s : Int) := (i64_w _).trans (wrap64_id (by omega) (by omega))
              have w2' : wrap64 (64 - (s : Int)) = 64 - (s : Int) := wrap64_id (by omega) (by omega)
              go_region
              all_goals go_wp2_with fail
              all_goals
                refine ⟨⟨1, rfl, ⟨by omega⟩, ⟨?_⟩⟩, by decide⟩
                have h := (HF1.out.rowset 1 rfl 0 r0).drewN 1
                simp only [List.set, List.set_set] at h
                exact h
          · obtain ⟨c0, c1⟩ := HCOL.out _ _ HF.out
            have d0 := HF.out.rowcell 1 rfl 1 (by have := HRL.out; simp; omega)
            have e0 := HF.out.rowfrozen 1 rfl 1
            generalize (rl0.set 0 r0).getD 1 0 = y0 at *
            have HF1 := Aside0.mk (HF.out.rowset 1 rfl 1 (u1 / 2 ^ s))
            simp only [List.set] at HF1
            go_wp2_with fail
            all_goals
              refine ⟨⟨2, rfl, ⟨by omega⟩, ⟨?_⟩⟩, by decide⟩
              have h := HF1.out
              rw [HOR.out.2.2] at h
              rw [show (u1 : Int) / 2 ^ s = (r1 : Int) by rw [← HOR.out.2.2]; simp]
              exact h
          · go_wp2_with fail
            go_end0
            refine ⟨rfl, ?_⟩
            rw [← HFIN.out.1, HFIN.out.2]
            exact HF.out.sub (.cons_cons _ (.cons_cons _ (.cons _ (.cons _ .slnil))))
      · have ej : ((j + 1 : Nat) : Int) - 1 = (j : Int) := by omega
        rw [ej]
        have hj : j < la := HL.out.le
        have hul := HL.out.ulen
        have t2 : decide ((j : Int) ≥ 0) = true := by rw [decide_eq_true_eq]; omega
        have w5 : IntKind.i64.wrap ((j : Int) + 2) = (j : Int) + 2 := (i64_w _).trans (wrap64_id (by omega) (by omega))
        have w6 : IntKind.i64.wrap ((j : Int) + 2 - 1) = (j : Int) + 1 := (i64_w _).trans ((wrap64_id (by omega) (by omega)).trans (by omega))
        have n5 : ((j : Int) + 2).toNat = j + 2 := by omega
        have n6 : ((j : Int) + 1).toNat = j + 1 := by omega
        have b5 : (j : Int) + 2 < (la : Int) + 2 := by omega
        have b05 : (0 : Int) ≤ (j : Int) + 2 := by omega
        have b06 : (0 : Int) ≤ (j : Int) + 1 := by omega
        have b07 : (1 : Int) < ((2 : Nat) : Int) := by omega
        have w8 : IntKind.i64.wrap (2 - 1) = 1 := by rw [i64_w]; exact wrap64_id (by omega) (by omega)
        have b6 : (j : Int) + 1 < (la : Int) + 2 := by omega
        have hx : ∀ i, i < la + 2 → (ul ++ List.replicate z 0).getD i 0 = ul.getD i 0 := fun i hi => by simp [List.getD, List.getElem?_append_left, hul, hi]
        have c1 := HF.out.rowcell 3 rfl (j + 1) (by simp; omega)
        have c2 := HF.out.rowcell 3 rfl (j + 2) (by simp; omega)
        rw [hx _ (by omega)] at c1 c2
        have cv := HF.out.rowcell 2 rfl 1 (by simp)
        rw [show (digs 3 V).getD 1 0 = V / 18446744073709551616 % 18446744073709551616 from rfl, ← HD.out.e1, Nat.mod_eq_of_lt HD.out.v1w] at cv
        have HX := Aside0.mk (And.intro hx hul)
        obtain ⟨x1, hx1⟩ : ∃ x1, x1 = ul.getD (j + 1) 0 := ⟨_, rfl⟩
        obtain ⟨x2, hx2⟩ : ∃ x2, x2 = ul.getD (j + 2) 0 := ⟨_, rfl⟩
        rw [← hx1] at c1
        rw [← hx2] at c2
        have hx1w : x1 < 18446744073709551616 := hx1 ▸ getD_w HL.out.uw _
        have HXX := Aside0.mk (And.intro hx1 hx2)
        clear hx hul hx1 hx2
        obtain ⟨X, hX⟩ : ∃ X, X = val ((ul.drop j).take 3) := ⟨_, rfl⟩
        have HLS := Aside0.mk (HL.out.step HD.out.lt HD.out.Vp)
        rw [← hX] at HLS
        have HG : ∀ g, g = (if x2 < v1 then (x2 * 18446744073709551616 + x1) / v1 else 18446744073709551615) → X / V ≤ g := fun g hg => by
          refine guess_le (W := 18446744073709551616) (x0 := ul.getD j 0) (x1 := x1) (x2 := x2) (v0 := v0) (v1 := v1) ?_ ?_ (getD_w HL.out.uw _) HD.out.v1p HLS.out.1 hg (by omega)
          · have h := HX.out.2
            rw [hX, HXX.out.1, HXX.out.2]
            exact val3 ul j (by omega)
          · rw [HD.out.e0, HD.out.e1, Nat.add_comm]; exact (Nat.div_add_mod _ _).symm
        have HGG := Aside0.mk HG
        have HXE := Aside0.mk hX
        clear HG hX
        by_cases hlt : x2 < v1
        · have tt : decide (x2 < v1) = true := decide_eq_true hlt
          have hga := HGG.out _ (by rw [if_pos hlt])
          have hgw : (x2 * 18446744073709551616 + x1) / v1 < 18446744073709551616 := by
            rw [Nat.div_lt_iff_lt_mul HD.out.v1p]
            have : 18446744073709551616 * (x2 + 1) ≤ 18446744073709551616 * v1 := Nat.mul_le_mul_left _ hlt
            omega
          have HDv := Aside0.mk (div64N x2 x1 v1 hlt hx1w HD.out.v1w)
          generalize (x2 * 18446744073709551616 + x1) / v1 = g at *
          generalize (x2 * 18446744073709551616 + x1) % v1 = gr' at *
          have HGa := Aside0.mk (And.intro hga hgw)
          clear hga hgw hlt
          go_upto_region 10 with (fail)
          go_quiet (fail)
          go_wp2_with fail
          go_upto_region 11 with (fail)
          go_cut [13] (fun v13 wc => v13 = .int .u64 (g : Int) ∧ Aside0 (Fr w0 wc [(gq, rowO ql), (gr, rowO (List.replicate (lm + 2) 0)), (gv, rowO (digs 3 V)), (gu, rowO (ul ++ List.replicate z 0))]))
          case first =>
            go_region_with (first | (go_at_call 134; refine (HDv.out _).mono ?_; rintro e w3 ⟨rfl, kk, rfl⟩))
            all_goals go_wp2_with fail
            all_goals go_meet
            all_goals exact ⟨rfl, ⟨HF.out.drewN _⟩⟩
          case rest =>
            obtain ⟨rfl, HFc⟩ := hcut
            go_wp2_with fail
            go_loopw [13] (fun v13 wr' => ∃ g : Nat, v13 = .int .u64 (g : Int) ∧ Aside0 (X / V ≤ g ∧ g < 18446744073709551616) ∧ Aside0 (Fr w0 wr' [(gq, rowO ql), (gr, rowO (List.replicate (lm + 2) 0)), (gv, rowO (digs 3 V)), (gu, rowO (ul ++ List.replicate z 0))])) (fun v13 _ => (intOf v13).toNat)
            case atStart => exact ⟨_, rfl, HGa, HFc⟩
            case round =>
              clear HF HGa tt c1 c2 cv
              obtain ⟨g, rfl, HGa, HF⟩ := hrel
              clear w5 w6 w8
              have hcj : 3 ≤ cu - j := by have := HCU.out; omega
              have bc' : (j : Int) + 3 ≤ (cu : Int) := by have := HCU.out; omega
              have hT := takenN gu j (cu - j) (ul ++ List.replicate z 0) ((digs 3 V).take 2) (some ⟨gv, 0, none⟩) 3 g _ (HF.out.at 3 rfl) (W64_append HL.out.uw (W64_rep _)) (by have := HX.out.2; simp; omega) hcj ((num_of_blk (c := 3) (HF.out.at 2 rfl) (digs_w _ _) (by simp) (by simp)).take 2 (by simp)) (by simp) HGa.out.2
              rw [take_two HD.out.lt, (mid_row ul z j (by have := HX.out.2; omega)).1, (mid_row ul z j (by have := HX.out.2; omega)).2 _, ← HXE.out] at hT
              have HT := Aside0.mk hT
              clear hT hcj
              have e3 : j + 2 + 1 - j = 3 := by omega
              have HE3 := Aside0.mk e3
              have HT5 := Aside0.mk (show decide ((j : Int) < (la : Int)) = true ∧ (j : Int) < (la : Int) ∧ wrap64 ((j : Int) - 1) = (j : Int) - 1 from ⟨by rw [decide_eq_true_eq]; omega, by omega, wrap64_id (by omega) (by omega)⟩)
              by_cases hle : V * g ≤ X
              · have hge : g = X / V := Nat.le_antisymm ((Nat.le_div_iff_mul_le HD.out.Vp).2 (by rw [Nat.mul_comm]; exact hle)) HGa.out.1
                have HGE := Aside0.mk hge
                have HLE := Aside0.mk hle
                have w7 : wrap64 ((j : Int) + 2 + 1) = (j : Int) + 3 := (wrap64_id (by omega) (by omega)).trans (by omega)
                clear e3 hge hle
                go_wp2_with fail
                rw [HE3.out]
                refine HT.out.mono ?_
                rintro e w4 ⟨_, ht⟩
                obtain ⟨rfl, hbut, hrow⟩ := ht HLE.out
                have HF5 := Aside0.mk (HF.out.turn 3 rfl _ hbut.grown hrow)
                simp only [List.set] at HF5
                clear ht hbut hrow HT w7
                have q4 := HF5.out.rowcell 0 rfl j (by rw [HL.out.qlen]; exact hj)
                have q5 := HF5.out.rowfrozen 0 rfl j
                generalize ql.getD j 0 = qy at *
                have t5 := HT5.out.1
                have b7 := HT5.out.2.1
                have w9 := HT5.out.2.2
                go_wp2_with fail
                go_roundw
                case rel =>
                  refine ⟨j, _, _, by first | rfl | exact congrArg (Value.int .i64) w9, ⟨HLS.out.2⟩, ⟨?_⟩⟩
                  have h6 := HF5.out.rowset 0 rfl j g
                  rw [HGE.out] at h6 ⊢
                  exact h6
                case measure => first | exact msr_dn j | (rw [w9]; exact msr_dn j)
              · have hg1 : 1 ≤ g := Nat.pos_of_ne_zero (fun e => hle (by rw [e, Nat.mul_zero]; exact Nat.zero_le _))
                have HGE := Aside0.mk (show X / V ≤ g - 1 from Nat.le_sub_one_of_lt (by rw [Nat.div_lt_iff_lt_mul HD.out.Vp, Nat.mul_comm]; omega))
                have HLE := Aside0.mk (show X < V * g by omega)
                have HG1 := Aside0.mk (show (intOf (.int .u64 ((g - 1 : Nat) : Int))).toNat < (intOf (.int .u64 (g : Int))).toNat from msr_nat2 (by omega))
                have HGw := Aside0.mk (show g - 1 < 18446744073709551616 by have := HGa.out.2; omega)
                have HWG := Aside0.mk (u64_pred hg1 HGa.out.2)
                have w7 : wrap64 ((j : Int) + 2 + 1) = (j : Int) + 3 := (wrap64_id (by omega) (by omega)).trans (by omega)
                clear e3 hle hg1
                go_wp2_with fail
                rw [HE3.out]
                refine HT.out.mono ?_
                rintro e w4 ⟨hf, _⟩
                obtain ⟨rfl, hb⟩ := hf HLE.out
                have HF5 := Aside0.mk (HF.out.mv hb)
                clear hf hb HT w7
                have wg := HWG.out
                go_wp2_with fail
                go_roundw
                case rel => exact ⟨g - 1, by first | rfl | exact congrArg (Value.int .u64) wg, ⟨HGE.out, HGw.out⟩, HF5⟩
                case measure => first | exact HG1.out | (rw [wg]; exact HG1.out)
        · have tt : decide (x2 < v1) = false := decide_eq_false hlt
          have HGa := Aside0.mk (And.intro (HGG.out _ (by rw [if_neg hlt])) (show (18446744073709551615 : Nat) < 18446744073709551616 by omega))
          clear hlt
          go_upto_region 10 with (fail)
          go_quiet (fail)
          go_wp2_with fail
          go_loopw [13] (fun v13 wr' => ∃ g : Nat, v13 = .int .u64 (g : Int) ∧ Aside0 (X / V ≤ g ∧ g < 18446744073709551616) ∧ Aside0 (Fr w0 wr' [(gq, rowO ql), (gr, rowO (List.replicate (lm + 2) 0)), (gv, rowO (digs 3 V)), (gu, rowO (ul ++ List.replicate z 0))])) (fun v13 _ => (intOf v13).toNat)
          case atStart => exact ⟨_, rfl, HGa, ⟨HF.out.drewN _⟩⟩
          case round =>
            clear HF HGa tt c1 c2 cv
            obtain ⟨g, rfl, HGa, HF⟩ := hrel
            clear w5 w6 w8
            have hcj : 3 ≤ cu - j := by have := HCU.out; omega
            have bc' : (j : Int) + 3 ≤ (cu : Int) := by have := HCU.out; omega
            have hT := takenN gu j (cu - j) (ul ++ List.replicate z 0) ((digs 3 V).take 2) (some ⟨gv, 0, none⟩) 3 g _ (HF.out.at 3 rfl) (W64_append HL.out.uw (W64_rep _)) (by have := HX.out.2; simp; omega) hcj ((num_of_blk (c := 3) (HF.out.at 2 rfl) (digs_w _ _) (by simp) (by simp)).take 2 (by simp)) (by simp) HGa.out.2
            rw [take_two HD.out.lt, (mid_row ul z j (by have := HX.out.2; omega)).1, (mid_row ul z j (by have := HX.out.2; omega)).2 _, ← HXE.out] at hT
            have HT := Aside0.mk hT
            clear hT hcj
            have e3 : j + 2 + 1 - j = 3 := by omega
            have HE3 := Aside0.mk e3
            have HT5 := Aside0.mk (show decide ((j : Int) < (la : Int)) = true ∧ (j : Int) < (la : Int) ∧ wrap64 ((j : Int) - 1) = (j : Int) - 1 from ⟨by rw [decide_eq_true_eq]; omega, by omega, wrap64_id (by omega) (by omega)⟩)
            by_cases hle : V * g ≤ X
            · have hge : g = X / V := Nat.le_antisymm ((Nat.le_div_iff_mul_le HD.out.Vp).2 (by rw [Nat.mul_comm]; exact hle)) HGa.out.1
              have HGE := Aside0.mk hge
              have HLE := Aside0.mk hle
              have w7 : wrap64 ((j : Int) + 2 + 1) = (j : Int) + 3 := (wrap64_id (by omega) (by omega)).trans (by omega)
              clear e3 hge hle
              go_wp2_with fail
              rw [HE3.out]
              refine HT.out.mono ?_
              rintro e w4 ⟨_, ht⟩
              obtain ⟨rfl, hbut, hrow⟩ := ht HLE.out
              have HF5 := Aside0.mk (HF.out.turn 3 rfl _ hbut.grown hrow)
              simp only [List.set] at HF5
              clear ht hbut hrow HT w7
              have q4 := HF5.out.rowcell 0 rfl j (by rw [HL.out.qlen]; exact hj)
              have q5 := HF5.out.rowfrozen 0 rfl j
              generalize ql.getD j 0 = qy at *
              have t5 := HT5.out.1
              have b7 := HT5.out.2.1
              have w9 := HT5.out.2.2
              go_wp2_with fail
              go_roundw
              case rel =>
                refine ⟨j, _, _, by first | rfl | exact congrArg (Value.int .i64) w9, ⟨HLS.out.2⟩, ⟨?_⟩⟩
                have h6 := HF5.out.rowset 0 rfl j g
                rw [HGE.out] at h6 ⊢
                exact h6
              case measure => first | exact msr_dn j | (rw [w9]; exact msr_dn j)
            · have hg1 : 1 ≤ g := Nat.pos_of_ne_zero (fun e => hle (by rw [e, Nat.mul_zero]; exact Nat.zero_le _))
              have HGE := Aside0.mk (show X / V ≤ g - 1 from Nat.le_sub_one_of_lt (by rw [Nat.div_lt_iff_lt_mul HD.out.Vp, Nat.mul_comm]; omega))
              have HLE := Aside0.mk (show X < V * g by omega)
              have HG1 := Aside0.mk (show (intOf (.int .u64 ((g - 1 : Nat) : Int))).toNat < (intOf (.int .u64 (g : Int))).toNat from msr_nat2 (by omega))
              have HGw := Aside0.mk (show g - 1 < 18446744073709551616 by have := HGa.out.2; omega)
              have HWG := Aside0.mk (u64_pred hg1 HGa.out.2)
              have w7 : wrap64 ((j : Int) + 2 + 1) = (j : Int) + 3 := (wrap64_id (by omega) (by omega)).trans (by omega)
              clear e3 hle hg1
              go_wp2_with fail
              rw [HE3.out]
              refine HT.out.mono ?_
              rintro e w4 ⟨hf, _⟩
              obtain ⟨rfl, hb⟩ := hf HLE.out
              have HF5 := Aside0.mk (HF.out.mv hb)
              clear hf hb HT w7
              have wg := HWG.out
              go_wp2_with fail
              go_roundw
              case rel => exact ⟨g - 1, by first | rfl | exact congrArg (Value.int .u64) wg, ⟨HGE.out, HGw.out⟩, HF5⟩
              case measure => first | exact HG1.out | (rw [wg]; exact HG1.out)
end Go.Proofs.YtjpibgehhgaopaaGreat.Top
