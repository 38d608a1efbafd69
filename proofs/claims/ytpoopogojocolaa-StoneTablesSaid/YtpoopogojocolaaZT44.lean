/- An hour's type in memory. -/
import Derived.Test.YtpoopogojocolaaZT39
import Derived.Test.YtpoopogojocolaaZT41
import Derived.Test.YtpoopogojocolaaZT36
import Derived.Test.YtpoopogojocolaaZT42
import Derived.Test.YtpoopogojocolaaZT43
import Derived.Test.YtpoopogojocolaaZT01
namespace Go.Proofs.Ytpoopogojocolaa.P
open Go.RowKit Go.Proofs.YtpoopogojocolaaW.PrintWords Go.Proofs.YtpoopogojocolaaW.PrintLast Go.Proofs.YtpoopogojocolaaW.PrintMore
set_option linter.unusedVariables false
set_option linter.unusedSimpArgs false
theorem wrapB {i : Nat} (h : i < 9223372036854775807) : wrap64 ((i : Int) + 1) = ((i + 1 : Nat) : Int) := by unfold wrap64; omega
theorem row_at {tb : List (List Int)} {i : Nat} {r : List Int} (h : tb[i]? = some r) : rd_L7 tb (i : Int) = r := getD_of h
def wideF (tb : List (List Int)) : Bool := decide ((tb.map (fun r => (r.length : Int))).foldl mx 0 > 60) || decide ((tb.length : Int) > 20)
theorem wide_loop (tb : List (List Int)) (hl : tb.length ≤ 9223372036854775807) : ∀ (d i : Nat) (n : Int), i + d = tb.length → Ev (fun k => senvylaw02_wide.l0 k tb n i) (decide (((tb.drop i).map (fun r => (r.length : Int))).foldl mx n > 60) || decide ((tb.length : Int) > 20))
  | 0, i, n, h => by
    rw [List.drop_eq_nil_of_le (by omega)]
    refine Ev.step (f := fun _ => some _) (fun k => ?_) (Ev.now _)
    simp only [senvylaw02_wide.l0]
    rw [if_neg (by omega)]
    show _ = some (decide (n > 60) || _)
    by_cases hn : n > 60
    · rw [if_pos hn, decide_eq_true hn]; rfl
    · rw [if_neg hn, decide_eq_false hn]; rfl
  | d + 1, i, n, h => by
    obtain ⟨r, hr⟩ := at_lt tb (i := i) (by omega)
    rw [drop_cons hr, List.map_cons, List.foldl_cons]
    refine Ev.step (fun k => ?_) (wide_loop tb hl d (i + 1) (mx n (r.length : Int)) (by omega))
    simp only [senvylaw02_wide.l0]
    rw [if_pos (by omega), if_pos (by omega), row_at hr, wrapB (by omega)]
theorem wide_ev (tb : List (List Int)) (hl : tb.length ≤ 9223372036854775807) : Ev (fun k => senvylaw02_wide.f k tb) (wideF tb) := by
  have := wide_loop tb hl tb.length 0 0 (by omega)
  simpa [senvylaw02_wide.f, wideF] using this
theorem wide_false {tb : List (List Int)} : wideF tb = false ↔ tb.length ≤ 20 ∧ ∀ r, r ∈ tb → r.length ≤ 60 := by
  unfold wideF
  rw [Bool.or_eq_false_iff, decide_eq_false_iff_not, decide_eq_false_iff_not, Int.not_lt, Int.not_lt, foldl_mx_le]
  constructor
  · rintro ⟨⟨_, h⟩, h2⟩
    refine ⟨by omega, fun r hr => ?_⟩
    have := h _ (List.mem_map.2 ⟨r, hr, rfl⟩)
    omega
  · rintro ⟨h1, h2⟩
    refine ⟨⟨by omega, fun y hy => ?_⟩, by omega⟩
    obtain ⟨r, hr, rfl⟩ := List.mem_map.1 hy
    have := h2 r hr
    omega
theorem twin_loop (tb : List (List Int)) (hl : tb.length ≤ 20) (hr : ∀ r, r ∈ tb → r.length ≤ 60) : ∀ (d i : Nat) (acc : List (List Int)), i + d = tb.length → acc.length ≤ i → Ev (fun k => senvylaw02_twinRows.l0 k tb acc i) (acc ++ tb.drop i)
  | 0, i, acc, h, ha => Ev.step (f := fun _ => some _) (fun k => by simp only [senvylaw02_twinRows.l0]; rw [if_neg (by omega), show tb.drop i = [] from List.drop_eq_nil_of_le (by omega), List.append_nil]) (Ev.now _)
  | d + 1, i, acc, h, ha => by
    obtain ⟨r, hx⟩ := at_lt tb (i := i) (by omega)
    have ih := twin_loop tb hl hr d (i + 1) (acc ++ [r]) (by omega) (by simp; omega)
    rw [drop_cons hx]
    rw [List.append_assoc, List.singleton_append] at ih
    refine Ev.step (fun k => ?_) ih
    simp only [senvylaw02_twinRows.l0]
    have := hr r (List.mem_of_getElem? hx)
    rw [if_pos (by omega), if_pos (by omega), row_at hx, show senvylaw02_twinLongs.f r = some r from by unfold senvylaw02_twinLongs.f; rw [if_pos (by omega)], Option.bind_some, if_pos (by omega), wrapN (by omega)]
theorem twin_ev (tb : List (List Int)) (hl : tb.length ≤ 20) (hr : ∀ r, r ∈ tb → r.length ≤ 60) : ∃ k, senvylaw02_twinRows.f k tb = some tb := by
  have := twin_loop tb hl hr tb.length 0 [] (by omega) (by simp)
  obtain ⟨k, hk⟩ := this.rounds
  exact ⟨k, by simpa [senvylaw02_twinRows.f] using hk⟩
theorem al_loop (l : List Int) (hl : l.length ≤ 1000) : ∀ (d i : Nat), i + d = l.length → Ev (fun k => senvylaw02_alikeLongs.l0 k l l i) true
  | 0, i, h => Ev.step (f := fun _ => some true) (fun k => by simp only [senvylaw02_alikeLongs.l0]; rw [if_neg (by omega)]) (Ev.now _)
  | d + 1, i, h => Ev.step (fun k => by simp only [senvylaw02_alikeLongs.l0]; rw [if_pos (by omega), if_pos (by omega), if_pos (by omega), if_pos trivial, wrapN (by omega)]) (al_loop l hl d (i + 1) (by omega))
theorem al_ev (l : List Int) (hl : l.length ≤ 1000) : Ev (fun k => senvylaw02_alikeLongs.f k l l) true := by
  refine Ev.congr (f := fun k => senvylaw02_alikeLongs.l0 k l l ((0 : Nat) : Int)) (fun k => by unfold senvylaw02_alikeLongs.f; rw [if_pos rfl]; rfl) (al_loop l hl l.length 0 (by omega))
theorem ar_loop (tb : List (List Int)) (hl : tb.length ≤ 20) (hr : ∀ r, r ∈ tb → r.length ≤ 60) : ∀ (d i : Nat), i + d = tb.length → Ev (fun k => senvylaw02_alikeRows.l0 k tb tb i) true
  | 0, i, h => Ev.step (f := fun _ => some true) (fun k => by simp only [senvylaw02_alikeRows.l0]; rw [if_neg (by omega)]) (Ev.now _)
  | d + 1, i, h => by
    obtain ⟨r, hx⟩ := at_lt tb (i := i) (by omega)
    have := hr r (List.mem_of_getElem? hx)
    refine Ev.step (f := fun k => (senvylaw02_alikeLongs.f k r r).bind fun t => if t = true then senvylaw02_alikeRows.l0 k tb tb ((i + 1 : Nat) : Int) else some false) (fun k => ?_) ?_
    · simp only [senvylaw02_alikeRows.l0]
      rw [if_pos (by omega), if_pos (by omega), if_pos (by omega), row_at hx, wrapN (by omega)]
    · refine Ev.bind (f := fun k t => if t = true then senvylaw02_alikeRows.l0 k tb tb ((i + 1 : Nat) : Int) else some false) (al_ev r (by omega)) ?_
      exact Ev.congr (fun k => if_pos rfl) (ar_loop tb hl hr d (i + 1) (by omega))
theorem ar_same (tb : List (List Int)) (hl : tb.length ≤ 20) (hr : ∀ r, r ∈ tb → r.length ≤ 60) : ∃ k, senvylaw02_alikeRows.f k tb tb = some true := by
  obtain ⟨k, hk⟩ := (ar_loop tb hl hr tb.length 0 (by omega)).rounds
  exact ⟨k, by unfold senvylaw02_alikeRows.f; rw [if_pos rfl]; exact hk⟩
theorem ct0 {s li ga fa : Int} {l : List S73} (hG : Good s li ga fa l) (tb : List (List Int)) (ht : tb.length = l.length + 1) (r : Int × Int) (hne : tb.any (lenF li) = false → Ev (fun k => senvyref02_CheckTable.l1 k tb l.length ((0 : Nat) : Int) s li ga fa l) r) :
    ∀ (d i : Nat), i + d = tb.length → (∀ x, x ∈ tb.take i → lenF li x = false) → Ev (fun k => senvyref02_CheckTable.l0 k tb l.length i s li ga fa l) (if tb.any (lenF li) = true then (0, 15) else r)
  | 0, i, h, hb => by
    have hall : tb.any (lenF li) = false := by
      rw [List.any_eq_false]
      intro x hx
      rw [hb x (by rw [List.take_of_length_le (by omega)]; exact hx)]
      decide
    rw [if_neg (by rw [hall]; decide)]
    refine Ev.step (fun k => ?_) (hne hall)
    simp only [senvyref02_CheckTable.l0]
    rw [if_neg (by omega)]
    rfl
  | d + 1, i, h, hb => by
    have hn := hG.n2
    have h4 := hG.l4
    have h0 := hG.s0
    have h1 := hG.sl
    obtain ⟨x, hx⟩ := at_lt tb (i := i) (by omega)
    have hw : wrap64 (li + 1) = li + 1 := wrap_id (by omega) (by omega)
    cases hl : lenF li x with
    | true =>
      rw [if_pos (List.any_eq_true.2 ⟨x, List.mem_of_getElem? hx, hl⟩)]
      refine Ev.step (f := fun _ => some _) (fun k => ?_) (Ev.now _)
      simp only [senvyref02_CheckTable.l0]
      have hne : ¬ (x.length : Int) = li + 1 := of_decide_eq_true hl
      rw [if_pos (by omega), if_pos (by omega), if_pos (by omega), row_at hx, hw, if_neg hne]
    | false =>
      refine Ev.step (fun k => ?_) (ct0 hG tb ht r hne d (i + 1) (by omega) (no_next hx hl hb))
      simp only [senvyref02_CheckTable.l0]
      have he : (x.length : Int) = li + 1 := by
        have := of_decide_eq_false hl
        exact Decidable.of_not_not this
      rw [if_pos (by omega), if_pos (by omega), if_pos (by omega), row_at hx, hw, if_pos he, wrapN (by omega)]
theorem far_iff (row : List Int) : farF row = false ↔ ∀ x, x ∈ row → 0 ≤ x ∧ x ≤ 1200 := by
  rw [← inR_iff]
  simp [farF]
theorem ct2 {s li ga fa : Int} {l : List S73} (tb : List (List Int)) (n : Int) (i : Nat) (row : List Int) (hrow : tb[i]? = some row) (hi : i < 1000) (hrl : row.length ≤ 1000) (r : Int × Int) (hne : farF row = false → Ev (fun k => senvyref02_CheckTable.l1 k tb n ((i + 1 : Nat) : Int) s li ga fa l) r) :
    ∀ (d j : Nat), j + d = row.length → (∀ x, x ∈ row.take j → 0 ≤ x ∧ x ≤ 1200) → Ev (fun k => senvyref02_CheckTable.l2 k tb n i j s li ga fa l) (if farF row = true then (0, 3) else r)
  | 0, j, h, hb => by
    have hlt := lt_of_get hrow
    have hf : farF row = false := (far_iff row).2 (fun x hx => hb x (by rw [List.take_of_length_le (by omega)]; exact hx))
    rw [if_neg (by rw [hf]; decide)]
    refine Ev.step (fun k => ?_) (hne hf)
    simp only [senvyref02_CheckTable.l2]
    rw [if_pos (by omega), if_pos (by omega), row_at hrow, if_neg (by omega), wrapN (by omega)]
  | d + 1, j, h, hb => by
    have hlt := lt_of_get hrow
    obtain ⟨x, hx⟩ := at_lt row (i := j) (by omega)
    by_cases hc : 0 ≤ x ∧ x ≤ 1200
    · refine Ev.step (fun k => ?_) (ct2 tb n i row hrow hi hrl r hne d (j + 1) (by omega) (fun y hy => by
        rw [take_snoc' hx] at hy
        rcases List.mem_append.1 hy with hy | hy
        · exact hb y hy
        · rw [List.mem_singleton.1 hy]; exact hc))
      simp only [senvyref02_CheckTable.l2]
      rw [if_pos (by omega), if_pos (by omega), row_at hrow, if_pos (by omega), if_pos (by omega), rd_at hx, is_eq, Option.bind_some, if_pos (decide_eq_true hc), wrapN (by omega)]
    · have hf : farF row = true := by
        cases hfr : farF row with
        | true => rfl
        | false => exact absurd ((far_iff row).1 hfr x (List.mem_of_getElem? hx)) hc
      rw [if_pos hf]
      refine Ev.step (f := fun _ => some _) (fun k => ?_) (Ev.now _)
      simp only [senvyref02_CheckTable.l2]
      rw [if_pos (by omega), if_pos (by omega), row_at hrow, if_pos (by omega), if_pos (by omega), rd_at hx, is_eq, Option.bind_some, if_neg (by rw [decide_eq_false hc]; decide)]
theorem ct1 {s li ga fa : Int} {l : List S73} (tb : List (List Int)) (n : Nat) (ht : tb.length = n + 1) (hn : n ≤ 100) (hrl : ∀ r, r ∈ tb → r.length ≤ 1000) (r : Int × Int) (hne : tb.any farF = false → Ev (fun k => senvyref02_CheckTable.l3 k tb n ((0 : Nat) : Int) s li ga fa l) r) :
    ∀ (d i : Nat), i + d = tb.length → (∀ x, x ∈ tb.take i → farF x = false) → Ev (fun k => senvyref02_CheckTable.l1 k tb n i s li ga fa l) (if tb.any farF = true then (0, 3) else r)
  | 0, i, h, hb => by
    have hall : tb.any farF = false := by
      rw [List.any_eq_false]
      intro x hx
      rw [hb x (by rw [List.take_of_length_le (by omega)]; exact hx)]
      decide
    rw [if_neg (by rw [hall]; decide)]
    refine Ev.step (fun k => ?_) (hne hall)
    simp only [senvyref02_CheckTable.l1]
    rw [if_neg (by omega)]
    rfl
  | d + 1, i, h, hb => by
    obtain ⟨x, hx⟩ := at_lt tb (i := i) (by omega)
    have hxl := hrl x (List.mem_of_getElem? hx)
    refine Ev.step (f := fun k => senvyref02_CheckTable.l2 k tb n i ((0 : Nat) : Int) s li ga fa l) (fun k => by simp only [senvyref02_CheckTable.l1]; rw [if_pos (by omega)]; rfl) ?_
    have h2 := ct2 (s := s) (li := li) (ga := ga) (fa := fa) (l := l) tb n i x hx (by omega) hxl _ (fun hl => ct1 tb n ht hn hrl r hne d (i + 1) (by omega) (no_next hx hl hb)) x.length 0 (by omega) (by simp)
    cases hl : farF x with
    | true =>
      rw [hl, if_pos rfl] at h2
      rw [if_pos (List.any_eq_true.2 ⟨x, List.mem_of_getElem? hx, hl⟩)]
      exact h2
    | false =>
      rw [hl, if_neg (by decide)] at h2
      exact h2
theorem cellBad_eq {s li ga fa : Int} {l : List S73} (hG : Good s li ga fa l) {h : S73} (hh : h ∈ l) (next : List Int) (hb : ∀ j : Nat, 0 ≤ next.getD j 0 ∧ next.getD j 0 ≤ 1200) (n : Int) (heat : Int) :
    cellBad ⟨s, li, ga, fa, l, 0⟩ h next n heat = ((decide (afterF ⟨s, li, ga, fa, l, 0⟩ heat h.f0.f1 0 ≤ li) && decide (n < next.getD (afterF ⟨s, li, ga, fa, l, 0⟩ heat h.f0.f1 0).toNat 0)) || (decide (afterF ⟨s, li, ga, fa, l, 0⟩ heat h.f0.f1 1 ≤ li) && decide (n < wrap64 (h.f1 + next.getD (afterF ⟨s, li, ga, fa, l, 0⟩ heat h.f0.f1 1).toNat 0)))) := by
  have hhb := hG.hs h hh
  have e0 := hb (afterF ⟨s, li, ga, fa, l, 0⟩ heat h.f0.f1 0).toNat
  have b0 : badStep next n (stepF ⟨s, li, ga, fa, l, 0⟩ h heat 0) = decide (n < next.getD (afterF ⟨s, li, ga, fa, l, 0⟩ heat h.f0.f1 0).toNat 0) := by
    show decide (n < wrap64 (wrap64 (h.f1 * 0) + next.getD (afterF ⟨s, li, ga, fa, l, 0⟩ heat h.f0.f1 0).toNat 0)) = _
    rw [Int.mul_zero, wrap_id (x := 0) (by omega) (by omega), Int.zero_add, wrap_id (by omega) (by omega)]
  have b1 : badStep next n (stepF ⟨s, li, ga, fa, l, 0⟩ h heat 1) = decide (n < wrap64 (h.f1 + next.getD (afterF ⟨s, li, ga, fa, l, 0⟩ heat h.f0.f1 1).toNat 0)) := by
    show decide (n < wrap64 (wrap64 (h.f1 * 1) + next.getD (afterF ⟨s, li, ga, fa, l, 0⟩ heat h.f0.f1 1).toNat 0)) = _
    rw [Int.mul_one, wrap_id (x := h.f1) (by omega) (by omega)]
  unfold cellBad stepsF
  rw [List.any_filter, List.any_cons, List.any_cons, List.any_nil, Bool.or_false, b0, b1]
  rfl
theorem after_eq (s li ga fa : Int) (l : List S73) (heat room g : Int) : senvyref02_After.f s li ga fa l heat room g = some (afterF ⟨s, li, ga, fa, l, 0⟩ heat room g) := by
  unfold senvyref02_After.f afterF
  split <;> rfl
theorem ct4 {s li ga fa : Int} {l : List S73} (hG : Good s li ga fa l) (tb : List (List Int)) (n : Nat) (hn : n = l.length) (i : Nat) (cur next : List Int) (hi : tb[i]? = some cur) (hi1 : tb[i + 1]? = some next) {h : S73} (hh : l[i]? = some h) (hc : (cur.length : Int) = li + 1) (hnx : (next.length : Int) = li + 1) (hb : ∀ j : Nat, 0 ≤ next.getD j 0 ∧ next.getD j 0 ≤ 1200)
    (r : Int × Int) (hne : Ev (fun k => senvyref02_CheckTable.l3 k tb n ((i + 1 : Nat) : Int) s li ga fa l) r) :
    ∀ (d j : Nat), j + d = cur.length → Ev (fun k => senvyref02_CheckTable.l4 k tb n i j s li ga fa l) (if (List.range' j d).any (fun (j : Nat) => cellBad ⟨s, li, ga, fa, l, 0⟩ h next (cur.getD j 0) j) = true then (0, 14) else r)
  | 0, j, hj => by
    have hl2 := hG.n2
    have hli := lt_of_get hh
    rw [show (List.range' j 0).any (fun (j : Nat) => cellBad ⟨s, li, ga, fa, l, 0⟩ h next (cur.getD j 0) j) = false from rfl, if_neg (by decide)]
    refine Ev.step (fun k => ?_) hne
    simp only [senvyref02_CheckTable.l4]
    rw [if_neg (by omega), wrapN (by omega)]
  | d + 1, j, hj => by
    have hl2 := hG.n2
    have hli := lt_of_get hh
    have hl4 := hG.l4
    have ht1 := lt_of_get hi1
    have ht0 := lt_of_get hi
    obtain ⟨x, hx⟩ := at_lt cur (i := j) (by omega)
    have hmem := List.mem_of_getElem? hh
    have hhb := hG.hs h hmem
    have hgb := good_bench hG
    have hjl : (j : Int) ≤ li := by omega
    have a0 : 0 ≤ afterF ⟨s, li, ga, fa, l, 0⟩ (j : Int) h.f0.f1 0 := after_nonneg hgb (by omega) (by omega) (by omega) (by omega)
    have a1 : 0 ≤ afterF ⟨s, li, ga, fa, l, 0⟩ (j : Int) h.f0.f1 1 := after_nonneg hgb (by omega) (by omega) (by omega) (by omega)
    have ih := ct4 hG tb n hn i cur next hi hi1 hh hc hnx hb r hne d (j + 1) (by omega)
    rw [List.range'_succ, List.any_cons, cellBad_eq hG hmem next hb, getD_of hx]
    have f1 : (0 : Int) ≤ (i : Int) := by omega
    have f2 : (i : Int) < (l.length : Int) := by omega
    have f3 : (i : Int) < (tb.length : Int) := by omega
    have f4 : (0 : Int) ≤ (j : Int) := by omega
    have f5 : (j : Int) < (cur.length : Int) := by omega
    have f6 : (0 : Int) ≤ ((i + 1 : Nat) : Int) := by omega
    have f7 : ((i + 1 : Nat) : Int) < (tb.length : Int) := by omega
    have hw1 : wrap64 ((i : Int) + 1) = ((i + 1 : Nat) : Int) := wrapN (by omega)
    have hwj : wrap64 ((j : Int) + 1) = ((j + 1 : Nat) : Int) := wrapN (by omega)
    have r1 := row_at hi
    have r2 := row_at hi1
    have r3 := rd_at hx
    have r4 := rd_hour l i hh
    generalize hA0 : afterF ⟨s, li, ga, fa, l, 0⟩ (j : Int) h.f0.f1 0 = A0 at *
    generalize hA1 : afterF ⟨s, li, ga, fa, l, 0⟩ (j : Int) h.f0.f1 1 = A1 at *
    obtain ⟨m0, rfl⟩ := Int.eq_ofNat_of_zero_le a0
    obtain ⟨m1, rfl⟩ := Int.eq_ofNat_of_zero_le a1
    rw [Int.toNat_natCast, Int.toNat_natCast]
    have f8 : (0 : Int) ≤ (m0 : Int) := Int.natCast_nonneg _
    have f9 : (0 : Int) ≤ (m1 : Int) := Int.natCast_nonneg _
    refine Ev.step (f := fun k => senvyref02_CheckTable.j5 k tb n i j m1 (decide ((m0 : Int) ≤ li) && decide (x < next.getD m0 0)) s li ga fa l) (fun k => ?_) ?_
    · by_cases hc0 : (m0 : Int) ≤ li
      · have f10 : (m0 : Int) < (next.length : Int) := by rw [hnx]; exact Int.lt_add_one_of_le hc0
        simp only [senvyref02_CheckTable.l4, hjl, f1, f2, f3, f4, f5, f6, f7, f8, f10, hw1, r1, r2, r3, r4, rd_nat, after_eq, Option.bind_some, hA0, hA1, hc0, if_true, decide_true, Bool.true_and]
        first | rfl | (congr 1)
      · simp only [senvyref02_CheckTable.l4, hjl, f1, f2, r4, after_eq, Option.bind_some, hA0, hA1, hc0, if_true, if_false, decide_false, Bool.false_and]
    · cases hb0 : (decide ((m0 : Int) ≤ li) && decide (x < next.getD m0 0)) with
      | true =>
        rw [Bool.true_or, Bool.true_or, if_pos rfl]
        exact Ev.step (f := fun _ => some _) (fun k => by simp only [senvyref02_CheckTable.j5]; rw [if_pos trivial]) (Ev.now _)
      | false =>
        rw [Bool.false_or]
        by_cases hc1 : (m1 : Int) ≤ li
        · have f10 : (m1 : Int) < (next.length : Int) := by rw [hnx]; exact Int.lt_add_one_of_le hc1
          rw [decide_eq_true hc1, Bool.true_and]
          by_cases hlt : x < wrap64 (h.f1 + next.getD m1 0)
          · rw [decide_eq_true hlt, Bool.true_or, if_pos rfl]
            refine Ev.step (f := fun _ => some _) (fun k => ?_) (Ev.now _)
            simp only [senvyref02_CheckTable.j5, hc1, f1, f2, f3, f4, f5, f6, f7, f9, f10, hw1, r1, r2, r3, r4, rd_nat, hlt, if_true, if_false, Bool.false_eq_true]
          · rw [decide_eq_false hlt, Bool.false_or]
            refine Ev.step (fun k => ?_) ih
            simp only [senvyref02_CheckTable.j5, hc1, f1, f2, f3, f4, f5, f6, f7, f9, f10, hw1, hwj, r1, r2, r3, r4, rd_nat, hlt, if_true, if_false, Bool.false_eq_true]
        · rw [decide_eq_false hc1, Bool.false_and, Bool.false_or]
          refine Ev.step (fun k => ?_) ih
          simp only [senvyref02_CheckTable.j5, hc1, hwj, if_false, Bool.false_eq_true]
theorem far_in {row : List Int} (h : farF row = false) : ∀ j : Nat, 0 ≤ row.getD j 0 ∧ row.getD j 0 ≤ 1200 := by
  intro j
  have hin : inR 0 1200 row = true := by simpa [farF] using h
  rw [inR_iff] at hin
  by_cases hj : j < row.length
  · obtain ⟨x, hx⟩ := at_lt row hj
    rw [getD_of hx]
    exact hin x (List.mem_of_getElem? hx)
  · rw [List.getD_eq_getElem?_getD, List.getElem?_eq_none (by omega)]
    simp
theorem ct3 {s li ga fa : Int} {l : List S73} (hG : Good s li ga fa l) (tb : List (List Int)) (ht : tb.length = l.length + 1) (hrl : ∀ r, r ∈ tb → (r.length : Int) = li + 1) (hfar : ∀ r, r ∈ tb → farF r = false) :
    ∀ (d i : Nat), i + d = l.length → Ev (fun k => senvyref02_CheckTable.l3 k tb l.length i s li ga fa l) (if tabBad ⟨s, li, ga, fa, l, 0⟩ (l.drop i) (tb.drop i) = true then (0, 14) else ((tb.getD 0 []).getD s.toNat 0, 0))
  | 0, i, h => by
    have h0 := hG.s0
    have h1 := hG.sl
    obtain ⟨row, hrow⟩ := at_lt tb (i := 0) (by omega)
    have hl := hrl row (List.mem_of_getElem? hrow)
    obtain ⟨n, rfl⟩ := Int.eq_ofNat_of_zero_le h0
    rw [List.drop_eq_nil_of_le (by omega), show tabBad ⟨(n : Int), li, ga, fa, l, 0⟩ [] (tb.drop i) = false from by cases tb.drop i <;> rfl, if_neg (by decide)]
    refine Ev.step (f := fun _ => some _) (fun k => ?_) (Ev.now _)
    simp only [senvyref02_CheckTable.l3]
    rw [if_neg (by omega), if_pos (by omega), if_pos (by omega), show rd_L7 tb 0 = row from row_at (i := 0) hrow, if_pos (by omega), rd_nat, getD_of hrow, Int.toNat_natCast]
  | d + 1, i, h => by
    obtain ⟨hr, hhr⟩ := at_lt l (i := i) (by omega)
    obtain ⟨cur, hcur⟩ := at_lt tb (i := i) (by omega)
    obtain ⟨nx, hnx⟩ := at_lt tb (i := i + 1) (by omega)
    have e : tabBad ⟨s, li, ga, fa, l, 0⟩ (l.drop i) (tb.drop i) = (rowBad ⟨s, li, ga, fa, l, 0⟩ hr cur nx || tabBad ⟨s, li, ga, fa, l, 0⟩ (l.drop (i + 1)) (tb.drop (i + 1))) := by rw [drop_cons hhr, drop_cons hcur, drop_cons hnx]; rfl
    rw [e]
    have h4 := ct4 hG tb l.length rfl i cur nx hcur hnx hhr (hrl cur (List.mem_of_getElem? hcur)) (hrl nx (List.mem_of_getElem? hnx)) (far_in (hfar nx (List.mem_of_getElem? hnx))) _ (ct3 hG tb ht hrl hfar d (i + 1) (by omega)) cur.length 0 (by omega)
    refine Ev.step (f := fun k => senvyref02_CheckTable.l4 k tb l.length i ((0 : Nat) : Int) s li ga fa l) (fun k => by simp only [senvyref02_CheckTable.l3]; rw [if_pos (by omega)]; rfl) ?_
    rw [← List.range_eq_range'] at h4
    cases hb : rowBad ⟨s, li, ga, fa, l, 0⟩ hr cur nx with
    | true =>
      unfold rowBad at hb
      rw [hb, if_pos rfl] at h4
      rw [Bool.true_or, if_pos rfl]
      exact h4
    | false =>
      unfold rowBad at hb
      rw [hb, if_neg (by decide)] at h4
      rw [Bool.false_or]
      exact h4
theorem table_ev (s li ga fa : Int) (l : List S73) (tb : List (List Int)) (hl : l.length ≤ 1000) (htl : tb.length ≤ 1000) (htr : ∀ r, r ∈ tb → r.length ≤ 1000) : ∃ r, stone_CheckTable.f s li ga fa l tb = some r ∧ Ev (fun k => senvyref02_CheckTable.f k s li ga fa l tb) r := by
  refine ⟨_, rfl, ?_⟩
  have hcm := cm_ev s li ga fa l hl
  rw [open_nil]
  by_cases h : checkMillF s li ga fa l = 0
  · rw [if_pos h]
    rw [h] at hcm
    have hG := good_of h
    have hn := hG.n2
    refine Ev.bind (f := fun k t => if t = 0 then _ else _) hcm ?_
    refine Ev.congr (fun k => if_pos rfl) ?_
    have hw : wrap64 ((l.length : Int) + 1) = ((l.length + 1 : Nat) : Int) := wrapN (by omega)
    by_cases ht : tb.length = l.length + 1
    · refine Ev.congr (f := fun k => senvyref02_CheckTable.l0 k tb l.length ((0 : Nat) : Int) s li ga fa l) (fun k => by rw [hw, if_pos (by omega)]; rfl) ?_
      have h0 := ct0 hG tb ht (if tb.any farF = true then (0, 3) else if tabBad ⟨s, li, ga, fa, l, 0⟩ l tb = true then (0, 14) else ((tb.getD 0 []).getD s.toNat 0, 0)) (fun hlen => by
        have hrl : ∀ r, r ∈ tb → (r.length : Int) = li + 1 := fun r hr => by
          rw [List.any_eq_false] at hlen
          have := hlen r hr
          unfold lenF at this
          simpa using this
        refine ct1 tb l.length ht (by omega) htr _ (fun hf => ?_) tb.length 0 (by omega) (by simp)
        have hfar : ∀ r, r ∈ tb → farF r = false := fun r hr => by
          rw [List.any_eq_false] at hf
          simpa using hf r hr
        have := ct3 hG tb ht hrl hfar l.length 0 (by omega)
        rw [List.drop_zero, List.drop_zero] at this
        exact this) tb.length 0 (by omega) (by simp)
      by_cases hany : tb.any (lenF li) = true
      · rw [if_pos hany] at h0
        rw [if_neg (fun hc => by rw [hany] at hc; exact absurd hc.2 (by decide))]
        exact h0
      · rw [if_neg hany] at h0
        rw [if_pos ⟨ht, by simpa using hany⟩]
        exact h0
    · rw [if_neg (fun hc => ht hc.1)]
      exact Ev.congr (f := fun _ => some _) (fun k => by rw [hw, if_neg (by omega)]) (Ev.now _)
  · rw [if_neg h]
    refine Ev.bind (f := fun k t => if t = 0 then _ else _) hcm ?_
    refine Ev.congr (fun k => if_neg h) ?_
    exact Ev.bind (f := fun _ t => some (0, t)) hcm (Ev.now _)
end Go.Proofs.Ytpoopogojocolaa.P
namespace Go.Proofs.Ytpoopogojocolaa.P
open Go.RowKit Go.Proofs.YtpoopogojocolaaW.PrintWords Go.Proofs.YtpoopogojocolaaW.PrintLast Go.Proofs.YtpoopogojocolaaW.PrintMore
set_option linter.unusedVariables false
set_option linter.unusedSimpArgs false
theorem le_mx2 (a b : Int) : a ≤ mx a b ∧ b ≤ mx a b := by unfold mx; split <;> omega
theorem good_zero {s li ga fa : Int} {l : List S73} (hG : Good s li ga fa l) : checkMillF s li ga fa l = 0 := by
  have h1 := hG.n1
  have h2 := hG.n2
  have h3 := hG.s0
  have h4 := hG.sl
  have h5 := hG.l4
  have h6 := hG.g1
  have h7 := hG.g4
  have h8 := hG.f1
  have h9 := hG.f4
  unfold checkMillF
  have e1 : inR 1 12 [(l.length : Int)] = true := by rw [inR_iff]; intro y hy; rw [List.mem_singleton.1 hy]; omega
  have e2 : inR 0 40 [s, li] = true := by
    rw [inR_iff]
    intro y hy
    rcases List.mem_cons.1 hy with rfl | hy
    · omega
    · rw [List.mem_singleton.1 hy]; omega
  have e3 : inR 1 40 [ga, fa] = true := by
    rw [inR_iff]
    intro y hy
    rcases List.mem_cons.1 hy with rfl | hy
    · omega
    · rw [List.mem_singleton.1 hy]; omega
  have e4 : l.any strayF = false := by
    rw [List.any_eq_false]
    intro h hh hs
    have := hG.hs h hh
    exact (stray_iff h).1 hs ⟨by omega, by omega, by omega, by omega, by omega⟩
  rw [e1, e2, e3, e4, if_neg (by decide), if_neg (by
    rintro (h | h | h | h)
    · cases h
    · omega
    · cases h
    · cases h)]
theorem getD_take (l : List Int) (m j : Nat) (h : j < m) : (l.take m).getD j 0 = l.getD j 0 := by
  rw [List.getD_eq_getElem?_getD, List.getD_eq_getElem?_getD, List.getElem?_take, if_pos h]
theorem tabBad_false (b : Bn) : ∀ (hs : List S73) (tb : List (List Int)), (∀ i h c n, hs[i]? = some h → tb[i]? = some c → tb[i + 1]? = some n → rowBad b h c n = false) → tabBad b hs tb = false
  | [], tb, _ => by cases tb <;> rfl
  | h :: hs, [], _ => rfl
  | h :: hs, [c], _ => rfl
  | h :: hs, c :: n :: t, hr => by
    show (rowBad b h c n || tabBad b hs (n :: t)) = false
    rw [hr 0 h c n rfl rfl rfl, tabBad_false b hs (n :: t) (fun i h' c' n' h1 h2 h3 => hr (i + 1) h' c' n' (by simpa using h1) (by simpa using h2) (by simpa using h3))]
    rfl
theorem table_ok {s li ga fa : Int} {l : List S73} (hG : Good s li ga fa l) (hrooms : ∀ h, h ∈ l → h.f0.f1 ≤ li) :
    stone_CheckTable.f s li ga fa l ((List.range (l.length + 1)).map (fun i => (rowAt ⟨s, li, ga, fa, l, 0⟩ (l.drop i)).take (li.toNat + 1))) = some (tvF ⟨s, li, ga, fa, l, 0⟩ 0 s.toNat, 0) ∧
    (∀ r, r ∈ (List.range (l.length + 1)).map (fun i => (rowAt ⟨s, li, ga, fa, l, 0⟩ (l.drop i)).take (li.toNat + 1)) → r.length ≤ 60) := by
  have hB := good_bench hG
  have h0 := hG.s0
  have h1 := hG.sl
  have h4 := hG.l4
  have hn := hG.n2
  have hat : ∀ i, i < l.length + 1 → ((List.range (l.length + 1)).map (fun i => (rowAt ⟨s, li, ga, fa, l, 0⟩ (l.drop i)).take (li.toNat + 1)))[i]? = some ((rowAt ⟨s, li, ga, fa, l, 0⟩ (l.drop i)).take (li.toNat + 1)) := fun i hi => by
    rw [List.getElem?_map, List.getElem?_range hi]
    rfl
  have hrl : ∀ r, r ∈ (List.range (l.length + 1)).map (fun i => (rowAt ⟨s, li, ga, fa, l, 0⟩ (l.drop i)).take (li.toNat + 1)) → r.length = li.toNat + 1 := fun r hr => by
    obtain ⟨i, _, rfl⟩ := List.mem_map.1 hr
    rw [List.length_take, rowAt_length]
    omega
  have hin : ∀ i (j : Nat), 0 ≤ (rowAt ⟨s, li, ga, fa, l, 0⟩ (l.drop i)).getD j 0 ∧ (rowAt ⟨s, li, ga, fa, l, 0⟩ (l.drop i)).getD j 0 ≤ 1200 := fun i j => by
    have := row_in hB (l.drop i) (fun h hh => List.mem_of_mem_drop hh) (fun h hh => hrooms h (List.mem_of_mem_drop hh)) (by rw [List.length_drop]; omega) j
    have hl : (l.drop i).length ≤ 12 := by rw [List.length_drop]; omega
    omega
  have hlen : ((List.range (l.length + 1)).map (fun i => (rowAt ⟨s, li, ga, fa, l, 0⟩ (l.drop i)).take (li.toNat + 1))).any (lenF li) = false := by
    rw [List.any_eq_false]
    intro r hr
    have := hrl r hr
    unfold lenF
    simp only [decide_eq_true_eq, ne_eq, Classical.not_not]
    omega
  have hfar : ((List.range (l.length + 1)).map (fun i => (rowAt ⟨s, li, ga, fa, l, 0⟩ (l.drop i)).take (li.toNat + 1))).any farF = false := by
    rw [List.any_eq_false]
    intro r hr
    obtain ⟨i, _, rfl⟩ := List.mem_map.1 hr
    have : farF ((rowAt ⟨s, li, ga, fa, l, 0⟩ (l.drop i)).take (li.toNat + 1)) = false := by
      rw [far_iff]
      intro x hx
      obtain ⟨j, hj⟩ := List.mem_iff_getElem?.1 (List.mem_of_mem_take hx)
      have := hin i j
      rw [getD_of hj] at this
      exact this
    rw [this]
    decide
  have htab : tabBad ⟨s, li, ga, fa, l, 0⟩ l ((List.range (l.length + 1)).map (fun i => (rowAt ⟨s, li, ga, fa, l, 0⟩ (l.drop i)).take (li.toNat + 1))) = false := by
    refine tabBad_false _ _ _ (fun i h c nx hh hc hx => ?_)
    have hil := lt_of_get hh
    rw [hat i (by omega)] at hc
    rw [hat (i + 1) (by omega)] at hx
    injection hc with hc
    injection hx with hx
    have hmem := List.mem_of_getElem? hh
    have hrh := hrooms h hmem
    unfold rowBad
    rw [List.any_eq_false]
    intro j hj
    have hj := List.mem_range.1 hj
    rw [← hc, List.length_take, rowAt_length] at hj
    have hjl : (j : Int) ≤ li := by omega
    have hhb := hG.hs h hmem
    obtain ⟨a0, a1, a2⟩ := after_in hB hmem (heat := (j : Int)) (by omega) hjl hrh
    have hct := cell_two hB hmem (heat := (j : Int)) (by omega) hjl hrh (rowAt ⟨s, li, ga, fa, l, 0⟩ (l.drop (i + 1))) (hin (i + 1))
    have hcur : c.getD j 0 = cellF ⟨s, li, ga, fa, l, 0⟩ h (rowAt ⟨s, li, ga, fa, l, 0⟩ (l.drop (i + 1))) j := by
      rw [← hc, getD_take _ _ _ (by omega), drop_cons hh]
      refine row_cell h _ hjl (by show li ≤ 41; omega) ?_
      rw [hct]
      have e0 := hin (i + 1) (afterF ⟨s, li, ga, fa, l, 0⟩ (j : Int) h.f0.f1 0).toNat
      have e1 := hin (i + 1) (afterF ⟨s, li, ga, fa, l, 0⟩ (j : Int) h.f0.f1 1).toNat
      split
      · unfold mx; split <;> omega
      · exact e0.1
    have hnx : ∀ m : Nat, (m : Int) ≤ li → nx.getD m 0 = (rowAt ⟨s, li, ga, fa, l, 0⟩ (l.drop (i + 1))).getD m 0 := fun m hm => by rw [← hx, getD_take _ _ _ (by omega)]
    have hnb : ∀ m : Nat, 0 ≤ nx.getD m 0 ∧ nx.getD m 0 ≤ 1200 := fun m => by
      by_cases hm : m < li.toNat + 1
      · rw [← hx, getD_take _ _ _ hm]; exact hin (i + 1) m
      · rw [List.getD_eq_getElem?_getD, List.getElem?_eq_none (by rw [← hx, List.length_take, rowAt_length]; omega)]
        simp
    rw [cellBad_eq hG hmem nx hnb, hcur, hct]
    have e0 := hin (i + 1) (afterF ⟨s, li, ga, fa, l, 0⟩ (j : Int) h.f0.f1 0).toNat
    have e1 := hin (i + 1) (afterF ⟨s, li, ga, fa, l, 0⟩ (j : Int) h.f0.f1 1).toNat
    generalize afterF ⟨s, li, ga, fa, l, 0⟩ (j : Int) h.f0.f1 0 = A0 at *
    generalize afterF ⟨s, li, ga, fa, l, 0⟩ (j : Int) h.f0.f1 1 = A1 at *
    have n0 := hnx A0.toNat (by rw [Int.toNat_of_nonneg a0]; exact a1)
    rw [n0]
    by_cases hf : A1 ≤ li
    · have n1 := hnx A1.toNat (by rw [Int.toNat_of_nonneg a2]; exact hf)
      have hw : wrap64 (h.f1 + (rowAt ⟨s, li, ga, fa, l, 0⟩ (l.drop (i + 1))).getD A1.toNat 0) = h.f1 + (rowAt ⟨s, li, ga, fa, l, 0⟩ (l.drop (i + 1))).getD A1.toNat 0 := wrap_id (by omega) (by omega)
      rw [if_pos hf, n1, hw]
      generalize (rowAt ⟨s, li, ga, fa, l, 0⟩ (l.drop (i + 1))).getD A0.toNat 0 = V0 at *
      generalize (rowAt ⟨s, li, ga, fa, l, 0⟩ (l.drop (i + 1))).getD A1.toNat 0 = V1 at *
      have hm := le_mx2 V0 (h.f1 + V1)
      have d0 : decide (mx V0 (h.f1 + V1) < V0) = false := decide_eq_false (Int.not_lt.2 hm.1)
      have d1 : decide (mx V0 (h.f1 + V1) < h.f1 + V1) = false := decide_eq_false (Int.not_lt.2 hm.2)
      rw [d0, d1, Bool.and_false, Bool.and_false]
      decide
    · rw [if_neg hf, decide_eq_false hf, Bool.false_and, Bool.or_false, decide_eq_false (Int.lt_irrefl _), Bool.and_false]
      decide
  have hopen : openF s li ga fa l [] = 0 := by rw [open_nil]; exact good_zero hG
  refine ⟨?_, fun r hr => by have := hrl r hr; omega⟩
  unfold stone_CheckTable.f
  rw [if_pos hopen, if_pos ⟨by simp, hlen⟩, if_neg (by rw [hfar]; decide), if_neg (by rw [htab]; decide)]
  have hv : ((((List.range (l.length + 1)).map (fun i => (rowAt ⟨s, li, ga, fa, l, 0⟩ (l.drop i)).take (li.toNat + 1))).getD 0 []).getD s.toNat 0) = tvF ⟨s, li, ga, fa, l, 0⟩ 0 s.toNat := by
    rw [getD_of (hat 0 (by omega)), getD_take _ _ _ (by omega)]
    rfl
  rw [hv]
theorem returned_ev (s li ga fa : Int) (l : List S73) (hl : l.length ≤ 1000) : ∃ t n e, stone_Table.f s li ga fa l = some (t, e) ∧ Ev (fun k => senvyref02_Most.f k s li ga fa l) (n, e) ∧ t.length ≤ 20 ∧ (∀ r, r ∈ t → r.length ≤ 60) ∧ (e ≠ 0 → t = []) ∧ (e = 0 → Ev (fun k => senvyref02_CheckTable.f k s li ga fa l t) (n, 0)) := by
  obtain ⟨r, hr, he⟩ := most_ev s li ga fa l hl
  unfold stone_Most.f at hr
  injection hr with hr
  unfold stone_Table.f
  rcases plan_cases s li ga fa l hl with ⟨h, _⟩ | ⟨h, hG, hrooms, _, _⟩
  · rw [if_neg h] at hr ⊢
    subst hr
    exact ⟨_, _, _, rfl, he, by simp, fun r hr => by simp at hr, fun _ => rfl, fun h0 => absurd h0 h⟩
  · rw [if_pos h] at hr ⊢
    subst hr
    obtain ⟨h1, h2⟩ := table_ok hG hrooms
    have hn := hG.n2
    obtain ⟨r, hr, hev⟩ := table_ev s li ga fa l _ hl (by simp; omega) (fun r hr => Nat.le_trans (h2 r hr) (by decide))
    rw [h1] at hr
    injection hr with hr
    subst hr
    exact ⟨_, _, _, rfl, he, by simp; omega, h2, fun h0 => absurd rfl h0, fun _ => hev⟩
end Go.Proofs.Ytpoopogojocolaa.P
namespace Go.Proofs.Ytpoopogojocolaa.P
open Go.RowKit Go.Proofs.YtpoopogojocolaaW.PrintWords Go.Proofs.YtpoopogojocolaaW.PrintLast Go.Proofs.YtpoopogojocolaaW.PrintMore
theorem info73 : (Try.prog.info? 73).map (fun i => (i.zero, i.size, i.bytes)) = some (some (.agg #[.int .i64 0, .int .i64 0, .int .i64 0]), 3, 24) := by kernel_rfl
end Go.Proofs.Ytpoopogojocolaa.P
