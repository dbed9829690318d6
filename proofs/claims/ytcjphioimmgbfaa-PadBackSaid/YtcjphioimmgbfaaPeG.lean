/- The walk of the law PadBack: what is padded is taken apart again. -/
import Derived.Test.YtcjphioimmgbfaaPeF
import Derived.Test.YtcjphioimmgbfaaPdI
namespace Go.Proofs.Ytcjphioimmgbfaa.Tra
open Go.RowKit Go.Proofs.YtcjphioimmgbfaaW.PrintWords Go.Proofs.YtcjphioimmgbfaaW.PrintLast Go.Proofs.YtcjphioimmgbfaaW.PrintMore Go.Proofs.Ytcjphioimmgbfaa.PTraceActs
set_option linter.unusedVariables false
set_option linter.unusedSimpArgs false

theorem rd_cat_left (a b : List Int) (i : Nat) (h : i < a.length) : rd (a ++ b) (i : Int) = rd a (i : Int) := by
  unfold rd
  rw [Int.toNat_natCast, List.getD_eq_getElem?_getD, List.getElem?_append_left h, List.getD_eq_getElem?_getD]
theorem rd_cat_right (a b : List Int) (i : Nat) : rd (a ++ b) ((a.length + i : Nat) : Int) = rd b (i : Int) := by
  unfold rd
  rw [Int.toNat_natCast, Int.toNat_natCast, List.getD_eq_getElem?_getD, List.getElem?_append_right (by omega), List.getD_eq_getElem?_getD]
  congr 2
  omega
theorem dec_enc (xs m : List Int) (hx : FillOk xs) (h8 : 8 ≤ xs.length) (hl : (encL xs m).length ≤ 1024) : decS (encL xs m) = (m, 0) := by
  have e : encL xs m = ([0, 2] ++ xs) ++ (0 :: m) := by simp [encL]
  have hlen : (encL xs m).length = xs.length + 3 + m.length := by simp [encL]; omega
  have hp : ([0, 2] ++ xs : List Int).length = 2 + xs.length := by simp; omega
  have h := dec_first (encL xs m) (2 + xs.length) (by omega) (by omega) (by omega) (by
    rw [e]
    have := rd_cat_right ([0, 2] ++ xs) (0 :: m) 0
    rw [hp] at this
    rw [show 2 + xs.length = 2 + xs.length + 0 by omega, this]
    rfl) (fun j h2 hj => by
    rw [e, rd_cat_left _ _ _ (by omega)]
    obtain ⟨t, rfl⟩ : ∃ t, j = 2 + t := ⟨j - 2, by omega⟩
    have h3 := rd_cat_right [0, 2] xs t
    rw [show ([0, 2] : List Int).length = 2 from rfl] at h3
    rw [h3]
    have ht : t < xs.length := by omega
    have := (hx xs[t] (List.getElem_mem ht)).1
    unfold rd
    rw [Int.toNat_natCast, List.getD_eq_getElem?_getD, List.getElem?_eq_getElem ht]
    exact this) ⟨rfl, rfl⟩
  rw [h, if_neg (by omega), e]
  have : List.drop (2 + xs.length + 1) (([0, 2] ++ xs) ++ (0 :: m)) = m := by
    rw [List.drop_append, hp, List.drop_eq_nil_of_le (by rw [hp]; omega), show 2 + xs.length + 1 - (2 + xs.length) = 1 by omega]
    rfl
  rw [this]
theorem enc_bytes (xs m : List Int) (hx : FillOk xs) (hm : ∀ i, Byte (rd m i)) : ∀ i, Byte (rd (encL xs m) i) := by
  refine em_bytes _ ?_
  intro y hy
  unfold encL at hy
  simp only [List.mem_append, List.mem_cons, List.not_mem_nil, or_false] at hy
  rcases hy with ((((rfl | rfl) | hy) | rfl) | hy)
  · exact ⟨by decide, by decide⟩
  · exact ⟨by decide, by decide⟩
  · exact (hx y hy).2
  · exact ⟨by decide, by decide⟩
  · exact mem_byte hm y hy
set_option maxHeartbeats 1000000 in
set_option maxRecDepth 100000 in
theorem padBackWalk (A A2 : Option Addr) (ca cb : Nat) (m b : List Int) (k : Int) (w : World) (ha : ReadsInt w .u8 A m.length m) (hca : m.length ≤ ca) (hba : ∀ i, Byte (rd m i)) (hb : ReadsInt w .u8 A2 b.length b) (hcb : b.length ≤ cb) (hbb : ∀ i, Byte (rd b i)) (hk : -9223372036854775808 ≤ k ∧ k ≤ 9223372036854775807) :
    Calls Try.prog 10 #[.slice A m.length ca, .int .i64 k, .slice A2 b.length cb] w fun e w' => e = .returned (.bool true) ∧ Below w.heap.size w w' := by
  have HA := Aside0.mk (And.intro ha (And.intro hca hba))
  have HB := Aside0.mk (And.intro hb (And.intro hcb hbb))
  have HK := Aside0.mk hk
  clear ha hca hba hb hcb hbb hk
  go_enter Try.func10, Try.ntmps10
  go_wp2_with fail
  refine (awakePad _).mono ?_
  rintro e w1 ⟨rfl, hb1⟩
  have HB1 := Aside0.mk hb1
  clear hb1
  obtain ⟨r, hr⟩ : ∃ r : Bool, r = decide (m.length ≤ 1200 ∧ b.length ≤ 1200) := ⟨_, rfl⟩
  go_wp2_with fail
  refine (few_any w1.heap.size 2 (fun i => if i = 0 then A else A2) (fun i => if i = 0 then m.length else b.length) (fun i => if i = 0 then ca else cb) r _ ?_ (by omega) ?_ ?_).mono ?_
  · intro i hi
    rcases i with _ | _ | i
    · simp
    · simp
    · omega
  · rw [hr]
    constructor
    · intro h i hi
      have h2 : m.length ≤ 1200 ∧ b.length ≤ 1200 := by simpa using h
      rcases i with _ | _ | i
      · exact h2.1
      · exact h2.2
      · omega
    · intro h
      have h0 := h 0 (by omega)
      have h1 := h 1 (by omega)
      simp at h0 h1
      simp [h0, h1]
  · intro i
    have h1 := HA.out.1.2.1
    have h2 := HB.out.1.2.1
    show (if i = 0 then m.length else b.length) ≤ _
    split
    · exact h1
    · exact h2
  rintro e w2 ⟨rfl, hb2⟩
  have HB2 := Aside0.mk (show Below w.heap.size w w2 from (HB1.out.trans ((below_alloc (Below.refl w1.heap.size w1) (.cells #[.slice A m.length ca, .slice A2 b.length cb] 42)).mono HB1.out.size)).trans (hb2.mono (by have := HB1.out.size; simp; omega)))
  clear hb2
  by_cases hl : m.length ≤ 1200 ∧ b.length ≤ 1200
  · obtain rfl : r = true := by rw [hr]; simpa using hl
    have HL := Aside0.mk hl
    clear hr hl
    go_wp2_with fail
    refine (newS A2 cb b _ (HB.out.1.below HB2.out) (by have := HL.out.2; omega)).mono ?_
    rintro e w3 ⟨sb, A3, c3, rfl, HS, HO, HN⟩
    have HB3 := Aside0.mk (HB2.out.trans (HN.out.1.mono HB2.out.size))
    have ST := Aside0.mk (fun w' (ho : OnlyT w3 w' (some sb) none) => show Below w.heap.size w w' from HB3.out.trans ⟨ho.os, ho.tape, ho.output, ho.size, fun j hj => ho.block j (by have := HB3.out.size; omega) (by
      intro e
      injection e with e
      have h1 := HN.out.2
      have h2 := HB2.out.size
      omega) (by simp)⟩)
    go_wp2_with fail
    refine (encB A ca m k sb A3 c3 b w2.heap.size _ (fun w' ho => HA.out.1.below (ST.out w' ho)) HL.out.1 HK.out HS.out HO.out HB.out.2.2 HL.out.2).mono ?_
    rintro e w4 ⟨hres, HO4⟩
    have HB4 := Aside0.mk (ST.out w4 HO4.out)
    rcases hres with ⟨er, rfl, her⟩ | ⟨v, xs, rfl, HX, HV⟩
    · have t0 : (er != 0) = true := by simp [her]
      clear her
      go_wp2_with fail
      go_ret
      exact ⟨rfl, HB4.out⟩
    · obtain ⟨Av, cv, hv⟩ := own_slice HV.out
      subst hv
      obtain ⟨e1, hE1⟩ : ∃ e1, e1 = encL xs m := ⟨_, rfl⟩
      have HE := Aside0.mk (show decS e1 = (m, 0) ∧ (e1.length : Int) = k ∧ ∀ i, Byte (rd e1 i) from by
        rw [hE1]
        have := HX.out
        exact ⟨dec_enc xs m this.1 this.2.1 (by omega), this.2.2.1, enc_bytes xs m this.1 HA.out.2.2⟩)
      rw [← hE1] at HV ⊢
      clear hE1 HX
      have HVr := Aside0.mk (And.intro (own_reads' HV.out) (own_cap HV.out))
      have hk1 : ((e1.length : Int) == k) = true := by simp [HE.out.2.1]
      go_wp2_with fail
      refine (decNil Av cv e1 _ HVr.out.1 HVr.out.2 HE.out.2.2).mono ?_
      rintro e w5 ⟨v5, rfl, hO5, hb5⟩
      rw [HE.out.1] at hO5 ⊢
      have HB5 := Aside0.mk (HB4.out.trans (hb5.mono HB4.out.size))
      obtain ⟨A5, c5, hv5⟩ := own_slice hO5
      subst hv5
      have H5 := Aside0.mk (And.intro (own_reads' hO5) (own_cap hO5))
      clear hO5 hb5
      go_wp2_with fail
      refine (sameAB A5 A c5 ca m m _ H5.out.1 H5.out.2 (HA.out.1.below HB5.out) HA.out.2.1 HA.out.2.2 HA.out.2.2).mono ?_
      rintro e w6 ⟨rfl, hd⟩
      have HB6 := Aside0.mk (HB5.out.trans (hd.below.mono HB5.out.size))
      clear hd
      go_wp2_with fail
      go_ret
      exact ⟨by simp, HB6.out⟩
  · obtain rfl : r = false := by rw [hr]; simpa using hl
    clear hr hl
    go_wp2_with fail
    go_ret
    exact ⟨rfl, HB2.out⟩
end Go.Proofs.Ytcjphioimmgbfaa.Tra
