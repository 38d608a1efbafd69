/- Plain laws of the best plan, of how much can be ground, and how much one degree more would grind: the reference comes to the program's. -/
import Derived.Test.YtpoopogojocolaaZP38
namespace Go.Proofs.Ytpoopogojocolaa.P
open Go.RowKit Go.Proofs.YtpoopogojocolaaW.PrintWords Go.Proofs.YtpoopogojocolaaW.PrintLast Go.Proofs.YtpoopogojocolaaW.PrintMore
set_option linter.unusedVariables false
set_option linter.unusedSimpArgs false
theorem open_nil (s li ga fa : Int) (l : List S73) : openF s li ga fa l [] = checkMillF s li ga fa l := by
  unfold openF
  split
  · rename_i h; rw [h]; rfl
  · rfl
theorem best_case {s li ga fa : Int} {l : List S73} (hG : GoodB ⟨s, li, ga, fa, l, 0⟩) (h0 : 0 ≤ s) (h1 : s ≤ li) (hr : ∀ h, h ∈ l → h.f0.f1 ≤ li) : bestP ⟨s, li, ga, fa, l, 0⟩ l s = some (greedyF ⟨s, li, ga, fa, l, 0⟩ l 0 s, tvF ⟨s, li, ga, fa, l, 0⟩ 0 s.toNat) :=
  best_greedy hG hr l 0 rfl s h0 h1
theorem best_grinds {s li ga fa : Int} {l : List S73} (hG : GoodB ⟨s, li, ga, fa, l, 0⟩) {p : List Int} {v : Int} (h : bestP ⟨s, li, ga, fa, l, 0⟩ l s = some (p, v)) : p.length = l.length ∧ grindsF p l 0 = v := by
  obtain ⟨h1, h2⟩ := pick_some h
  refine ⟨(plansL_mem _ _ h1).1, ?_⟩
  have h3 := fP_val (s := s) (li := li) (ga := ga) (fa := fa) (fun h hh => ⟨(hG.hs h hh).2.2.1, (hG.hs h hh).2.2.2⟩) hG.n hG.li0 h1
  simp only at h2 h3
  rw [h2] at h3
  unfold fP at h3
  split at h3
  · injection h3
  · cases h3
theorem plan_cases (s li ga fa : Int) (l : List S73) (hl : l.length ≤ 1000) :
    (plannedF s li ga fa l ≠ 0 ∧ Ev (fun k => senvyref02_Plan.f k s li ga fa l) ([], plannedF s li ga fa l)) ∨
    (plannedF s li ga fa l = 0 ∧ Good s li ga fa l ∧ (∀ h, h ∈ l → h.f0.f1 ≤ li) ∧ Ev (fun k => senvyref02_Plan.f k s li ga fa l) (greedyF ⟨s, li, ga, fa, l, 0⟩ l 0 s, 0) ∧ bestP ⟨s, li, ga, fa, l, 0⟩ l s = some (greedyF ⟨s, li, ga, fa, l, 0⟩ l 0 s, tvF ⟨s, li, ga, fa, l, 0⟩ 0 s.toNat)) := by
  have hcm := cm_ev s li ga fa l hl
  unfold plannedF
  rw [open_nil]
  by_cases h : checkMillF s li ga fa l = 0
  · rw [if_pos h]
    rw [h] at hcm
    have hG := good_of h
    have hB := good_bench hG
    have hpo := po_ev hB
    by_cases hs : safeF ⟨s, li, ga, fa, l, 0⟩ true (List.replicate l.length 0) = true
    · rw [if_pos hs]
      have hrooms : ∀ h, h ∈ l → h.f0.f1 ≤ li := rest_rooms (b := ⟨s, li, ga, fa, l, 0⟩) rfl l s (fun h hh => by have := hG.hs h hh; omega) hs
      have hbc := best_case hB hG.s0 hG.sl hrooms
      refine .inr ⟨rfl, hG, hrooms, ?_, hbc⟩
      rw [hbc] at hpo
      refine Ev.bind (f := fun k t => if t = 0 then _ else _) hcm ?_
      refine Ev.congr (fun k => if_pos rfl) ?_
      refine Ev.bind (f := fun k (bt : List Int × Bool) => if bt.2 = true then some (bt.1, 0) else some (([] : List Int), 13)) hpo ?_
      exact Ev.congr (f := fun _ => some _) (fun k => if_pos rfl) (Ev.now _)
    · rw [if_neg hs]
      have hnone : bestP ⟨s, li, ga, fa, l, 0⟩ l s = none := by
        refine pickL_none _ _ (fun p hp => ?_)
        cases hv : valF ⟨s, li, ga, fa, l, 0⟩ l s p with
        | none => rfl
        | some v =>
          refine absurd ?_ hs
          have h2 := rest_safe hB l (fun h hh => hh) p s s (plansL_mem _ _ hp).1 hG.s0 (Int.le_refl _) hG.sl (by rw [hv]; rfl)
          rw [val_hOf l l _ s (by simp)] at h2
          rw [safe_eq hG true _ (by simp; omega), decide_eq_true_eq, foldl_mx_le]
          split at h2
          · rename_i h3
            exact ⟨by have := hG.s0; have := hG.sl; omega, h3⟩
          · cases h2
      refine .inl ⟨by decide, ?_⟩
      rw [hnone] at hpo
      refine Ev.bind (f := fun k t => if t = 0 then _ else _) hcm ?_
      refine Ev.congr (fun k => if_pos rfl) ?_
      refine Ev.bind (f := fun k (bt : List Int × Bool) => if bt.2 = true then some (bt.1, 0) else some (([] : List Int), 13)) hpo ?_
      exact Ev.congr (f := fun _ => some _) (fun k => if_neg (by decide)) (Ev.now _)
  · rw [if_neg h]
    refine .inl ⟨h, ?_⟩
    refine Ev.bind (f := fun k t => if t = 0 then _ else _) hcm ?_
    refine Ev.congr (fun k => if_neg h) ?_
    exact Ev.bind (f := fun _ t => some (([] : List Int), t)) hcm (Ev.now _)
theorem best_ev (s li ga fa : Int) (l : List S73) (hl : l.length ≤ 1000) : ∃ r, stone_Plan.f s li ga fa l = some r ∧ r.1.length ≤ 1000 ∧ Ev (fun k => senvyref02_Plan.f k s li ga fa l) r := by
  refine ⟨_, rfl, ?_⟩
  rcases plan_cases s li ga fa l hl with ⟨h, he⟩ | ⟨h, hG, hr, he, hb⟩
  · rw [if_neg h]
    exact ⟨by simp, he⟩
  · rw [if_pos h]
    have hlen := (best_grinds (good_bench hG) hb).1
    by_cases hz : rowAt ⟨s, li, ga, fa, l, 0⟩ l = List.replicate 42 0
    · rw [if_pos hz]
      have hg := greedy_zero (good_bench hG) hr (fun h hh => (hG.hs h hh).2.2.2.1) l 0 rfl s hG.s0 hG.sl (by
        rw [hz, List.getD_eq_getElem?_getD, List.getElem?_replicate]
        split <;> rfl)
      rw [hg] at he
      exact ⟨by simp; omega, he⟩
    · rw [if_neg hz]
      exact ⟨by simp only; omega, he⟩
theorem most_ev (s li ga fa : Int) (l : List S73) (hl : l.length ≤ 1000) : ∃ r, stone_Most.f s li ga fa l = some r ∧ Ev (fun k => senvyref02_Most.f k s li ga fa l) r := by
  refine ⟨_, rfl, ?_⟩
  rcases plan_cases s li ga fa l hl with ⟨h, he⟩ | ⟨h, hG, hr, he, hb⟩
  · rw [if_neg h]
    refine Ev.bind (f := fun k (bt : List Int × Int) => if bt.2 = 0 then _ else _) he ?_
    exact Ev.congr (f := fun _ => some _) (fun k => if_neg h) (Ev.now _)
  · rw [if_pos h]
    have hg := best_grinds (good_bench hG) hb
    have hn := hG.n2
    refine Ev.bind (f := fun k (bt : List Int × Int) => if bt.2 = 0 then _ else _) he ?_
    refine Ev.congr (fun k => if_pos rfl) ?_
    refine Ev.bind (f := fun _ t => some (t, 0)) (gs_ev s li ga fa l _ (by simp only; omega) (by simp only; omega)) ?_
    rw [hg.2]
    exact Ev.now _
theorem worth_ev (s li ga fa : Int) (l : List S73) (hl : l.length ≤ 1000) : ∃ r, stone_Worth.f s li ga fa l = some r ∧ Ev (fun k => senvyref02_Worth.f k s li ga fa l) r := by
  refine ⟨_, rfl, ?_⟩
  obtain ⟨r, hr, he⟩ := most_ev s li ga fa l hl
  injection hr with hr
  subst hr
  rcases plan_cases s li ga fa l hl with ⟨h, _⟩ | ⟨h, hG, hrooms, _, hb⟩
  · rw [if_neg h] at he ⊢
    refine Ev.bind (f := fun k (bt : Int × Int) => if bt.2 = 0 then _ else _) he ?_
    exact Ev.congr (f := fun _ => some _) (fun k => if_neg h) (Ev.now _)
  · rw [if_pos h] at he ⊢
    have hB := good_more hG
    have h0 := hG.s0
    have h1 := hG.sl
    have h4 := hG.l4
    have hbc := best_case hB h0 (by omega) (fun h hh => by have := hrooms h hh; omega)
    have hg := best_grinds hB hbc
    have hn := hG.n2
    have hpo := po_ev hB
    rw [hbc] at hpo
    have hw : wrap64 (li + 1) = li + 1 := wrap_id (by omega) (by omega)
    refine Ev.bind (f := fun k (bt : Int × Int) => if bt.2 = 0 then _ else _) he ?_
    refine Ev.congr (fun k => if_pos rfl) ?_
    refine Ev.congr (f := fun k => (senvyref02_PlanOf.f k s (li + 1) ga fa l).bind fun bt => (senvyref02_Grinds.f k s (li + 1) ga fa l bt.1).bind fun t => some (wrap64 (t - tvF ⟨s, li, ga, fa, l, 0⟩ 0 s.toNat), 0)) (fun k => by rw [hw]) ?_
    refine Ev.bind (f := fun k (bt : List Int × Bool) => (senvyref02_Grinds.f k s (li + 1) ga fa l bt.1).bind fun t => some (wrap64 (t - tvF ⟨s, li, ga, fa, l, 0⟩ 0 s.toNat), 0)) hpo ?_
    refine Ev.bind (f := fun _ t => some (wrap64 (t - tvF ⟨s, li, ga, fa, l, 0⟩ 0 s.toNat), 0)) (gs_ev s (li + 1) ga fa l _ (by show (greedyF _ _ _ _).length ≤ 1000; omega) (by show (greedyF _ _ _ _).length ≤ _; omega)) ?_
    rw [show grindsF (outP (some (greedyF ⟨s, li + 1, ga, fa, l, 0⟩ l 0 s, tvF ⟨s, li + 1, ga, fa, l, 0⟩ 0 s.toNat))).1 l 0 = tvF ⟨s, li + 1, ga, fa, l, 0⟩ 0 s.toNat from hg.2]
    exact Ev.now _
end Go.Proofs.Ytpoopogojocolaa.P
