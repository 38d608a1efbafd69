/- Plain laws of the reference for mills: what its functions come to, as many rounds as they want. -/
import Derived.Test.YtpoopogojocolaaZT09
import Derived.Test.YtpoopogojocolaaZT13
import Derived.Test.YtpoopogojocolaaZT01
import Derived.Test.YtpoopogojocolaaZT15
import Derived.Test.YtpoopogojocolaaZT16
import Derived.Test.YtpoopogojocolaaZT17
import Derived.Test.YtpoopogojocolaaZT19
import Derived.Test.YtpoopogojocolaaZT22
import Derived.Test.YtpoopogojocolaaZT23
namespace Go.Proofs.Ytpoopogojocolaa.P
open Go.RowKit Go.Proofs.YtpoopogojocolaaW.PrintWords Go.Proofs.YtpoopogojocolaaW.PrintLast Go.Proofs.YtpoopogojocolaaW.PrintMore
set_option linter.unusedVariables false
set_option linter.unusedSimpArgs false
theorem wrapN {i : Nat} (h : i < 1000000) : wrap64 ((i : Int) + 1) = ((i + 1 : Nat) : Int) := by unfold wrap64; omega
theorem rd_nat (l : List Int) (i : Nat) : rd l (i : Int) = l.getD i 0 := rfl
theorem getD_of {α : Type} {l : List α} {i : Nat} {x d : α} (h : l[i]? = some x) : l.getD i d = x := by rw [List.getD_eq_getElem?_getD, h]; rfl
theorem rd_at {l : List Int} {i : Nat} {x : Int} (h : l[i]? = some x) : rd l (i : Int) = x := getD_of h
theorem at_lt {α : Type} (l : List α) {i : Nat} (h : i < l.length) : ∃ x, l[i]? = some x := ⟨_, List.getElem?_eq_getElem h⟩
theorem mill_loop (s li ga fa : Int) (l : List S73) (hl : l.length ≤ 1000) : ∀ (d i : Nat), i + d = l.length → Ev (fun k => senvylaw02_alikeMill.l0 k i s li ga fa l s li ga fa l) true
  | 0, i, h => Ev.step (f := fun _ => some true) (fun k => by simp only [senvylaw02_alikeMill.l0]; rw [if_neg (by omega)]) (Ev.now _)
  | d + 1, i, h => Ev.step (fun k => by simp only [senvylaw02_alikeMill.l0]; rw [if_pos (by omega), if_pos (by omega), if_pos (by omega), if_neg (by simp), wrapN (by omega)]) (mill_loop s li ga fa l hl d (i + 1) (by omega))
theorem mill_same (s li ga fa : Int) (l : List S73) (hl : l.length ≤ 1000) : ∃ k, senvylaw02_alikeMill.f k s li ga fa l s li ga fa l = some true := by
  have h1 : Ev (fun k => senvylaw02_alikeMill.f k s li ga fa l s li ga fa l) true := by
    refine Ev.congr (f := fun k => senvylaw02_alikeMill.j0 k false s li ga fa l s li ga fa l) (fun k => by unfold senvylaw02_alikeMill.f; rw [if_pos rfl, if_pos rfl, if_pos rfl, if_pos rfl]; simp) ?_
    exact Ev.step (fun k => by simp only [senvylaw02_alikeMill.j0]; rw [if_neg (by decide)]; rfl) (mill_loop s li ga fa l hl l.length 0 (by omega))
  exact h1.rounds
theorem is_eq (a b c : Int) : senvyref02_is.f a b c = some (decide (b ≤ a ∧ a ≤ c)) := by
  unfold senvyref02_is.f
  split
  · rename_i h; congr 1; simp; omega
  · rename_i h; congr 1; simp; omega
theorem stray_iff (h : S73) : strayF h = true ↔ ¬ (0 ≤ h.f0.f0 ∧ h.f0.f0 ≤ h.f0.f1 ∧ h.f0.f1 ≤ 40 ∧ 1 ≤ h.f1 ∧ h.f1 ≤ 100) := by
  simp [strayF, inR]
  omega
theorem rd_hour (l : List S73) (i : Nat) {h : S73} (e : l[i]? = some h) : rd_T73 l (i : Int) = h := by
  unfold rd_T73
  simp [e]
theorem cm_loop (s li ga fa : Int) (l : List S73) (hl : l.length ≤ 1000) : ∀ (d i : Nat), i + d = l.length → Ev (fun k => senvyref02_CheckMill.l0 k i s li ga fa l) (if (l.drop i).any strayF = true then 3 else 0)
  | 0, i, h => Ev.step (f := fun _ => some _) (fun k => by simp only [senvyref02_CheckMill.l0]; rw [if_neg (by omega), List.drop_eq_nil_of_le (by omega)]; rfl) (Ev.now _)
  | d + 1, i, h => by
    obtain ⟨x, hx⟩ := at_lt l (i := i) (by omega)
    rw [drop_cons hx, List.any_cons]
    have hs := stray_iff x
    cases hb : strayF x with
    | true =>
      rw [hb] at hs
      refine Ev.step (f := fun _ => some 3) (fun k => ?_) (Ev.now _)
      simp only [senvyref02_CheckMill.l0]
      rw [if_pos (by omega), if_pos (by omega), rd_hour l i hx]
      simp only [is_eq, Option.bind_some, decide_eq_true_eq]
      have hn := hs.1 rfl
      by_cases e1 : 0 ≤ x.f0.f0 ∧ x.f0.f0 ≤ x.f0.f1
      · rw [if_pos e1]
        by_cases e2 : 0 ≤ x.f0.f1 ∧ x.f0.f1 ≤ 40
        · rw [if_pos e2, if_neg (by omega)]
        · rw [if_neg e2]
      · rw [if_neg e1]
    | false =>
      rw [hb] at hs
      have hn : 0 ≤ x.f0.f0 ∧ x.f0.f0 ≤ x.f0.f1 ∧ x.f0.f1 ≤ 40 ∧ 1 ≤ x.f1 ∧ x.f1 ≤ 100 := by
        by_cases hc : 0 ≤ x.f0.f0 ∧ x.f0.f0 ≤ x.f0.f1 ∧ x.f0.f1 ≤ 40 ∧ 1 ≤ x.f1 ∧ x.f1 ≤ 100
        · exact hc
        · exact absurd (hs.2 hc) (by decide)
      rw [Bool.false_or]
      refine Ev.step (fun k => ?_) (cm_loop s li ga fa l hl d (i + 1) (by omega))
      simp only [senvyref02_CheckMill.l0]
      rw [if_pos (by omega), if_pos (by omega), rd_hour l i hx]
      simp only [is_eq, Option.bind_some, decide_eq_true_eq]
      rw [if_pos (by omega), if_pos (by omega), if_pos (by omega), wrapN (by omega)]
theorem cm_ev (s li ga fa : Int) (l : List S73) (hl : l.length ≤ 1000) : Ev (fun k => senvyref02_CheckMill.f k s li ga fa l) (checkMillF s li ga fa l) := by
  unfold checkMillF
  have hin : inR 1 12 [(l.length : Int)] = decide (1 ≤ (l.length : Int) ∧ (l.length : Int) ≤ 12) := by rw [Bool.eq_iff_iff]; simp [inR]
  rw [hin]
  by_cases h1 : 1 ≤ (l.length : Int) ∧ (l.length : Int) ≤ 12
  · rw [if_neg (by simp; omega)]
    refine Ev.congr (f := fun k => senvyref02_CheckMill.j0 k false s li ga fa l) (fun k => by unfold senvyref02_CheckMill.f; rw [if_neg (by omega)]; congr 1; simp; omega) ?_
    have h2 : inR 0 40 [s, li] = decide ((0 ≤ s ∧ s ≤ 40) ∧ 0 ≤ li ∧ li ≤ 40) := by rw [Bool.eq_iff_iff]; simp [inR]
    have h3 : inR 1 40 [ga, fa] = decide ((1 ≤ ga ∧ ga ≤ 40) ∧ 1 ≤ fa ∧ fa ≤ 40) := by rw [Bool.eq_iff_iff]; simp [inR]
    rw [h2, h3]
    by_cases hg : 0 ≤ li ∧ li ≤ 40 ∧ 0 ≤ s ∧ s ≤ li ∧ 1 ≤ ga ∧ ga ≤ 40 ∧ 1 ≤ fa ∧ fa ≤ 40
    · have hc : (decide ((0 ≤ s ∧ s ≤ 40) ∧ 0 ≤ li ∧ li ≤ 40) = false ∨ li < s ∨ decide ((1 ≤ ga ∧ ga ≤ 40) ∧ 1 ≤ fa ∧ fa ≤ 40) = false ∨ l.any strayF = true) ↔ (l.drop 0).any strayF = true := by
        rw [List.drop_zero]
        constructor
        · rintro (h | h | h | h)
          · simp at h; omega
          · omega
          · simp at h; omega
          · exact h
        · exact fun h => .inr (.inr (.inr h))
      rw [show (if (decide ((0 ≤ s ∧ s ≤ 40) ∧ 0 ≤ li ∧ li ≤ 40) = false ∨ li < s ∨ decide ((1 ≤ ga ∧ ga ≤ 40) ∧ 1 ≤ fa ∧ fa ≤ 40) = false ∨ l.any strayF = true) then (3 : Int) else 0) = (if (l.drop 0).any strayF = true then 3 else 0) from by simp only [hc]]
      refine Ev.step (f := fun k => senvyref02_CheckMill.j1 k false s li ga fa l) (fun k => ?_) (Ev.step (fun k => ?_) (cm_loop s li ga fa l hl l.length 0 (by omega)))
      · simp only [senvyref02_CheckMill.j0]
        rw [if_neg (by decide)]
        simp only [is_eq, Option.bind_some, decide_eq_true_eq]
        rw [if_pos (by omega), if_pos (by omega), if_pos (by omega), decide_eq_true (by omega : 1 ≤ fa ∧ fa ≤ 40)]
        rfl
      · simp only [senvyref02_CheckMill.j1]
        rw [if_neg (by decide)]
        rfl
    · rw [if_pos (by
        by_cases c1 : (0 ≤ s ∧ s ≤ 40) ∧ 0 ≤ li ∧ li ≤ 40
        · by_cases c2 : li < s
          · exact .inr (.inl c2)
          · exact .inr (.inr (.inl (by simp; omega)))
        · exact .inl (by simpa using c1))]
      refine Ev.step (f := fun k => senvyref02_CheckMill.j1 k true s li ga fa l) (fun k => ?_) (Ev.step (f := fun _ => some 3) (fun k => ?_) (Ev.now _))
      · simp only [senvyref02_CheckMill.j0]
        rw [if_neg (by decide)]
        simp only [is_eq, Option.bind_some, decide_eq_true_eq]
        by_cases c1 : 0 ≤ li ∧ li ≤ 40
        · rw [if_pos c1]
          by_cases c2 : 0 ≤ s ∧ s ≤ li
          · rw [if_pos c2]
            by_cases c3 : 1 ≤ ga ∧ ga ≤ 40
            · rw [if_pos c3, decide_eq_false (by omega : ¬ (1 ≤ fa ∧ fa ≤ 40))]
              rfl
            · rw [if_neg c3]
          · rw [if_neg c2]
        · rw [if_neg c1]
      · simp only [senvyref02_CheckMill.j1]
        rw [if_pos trivial]
  · rw [if_pos (by simp; omega)]
    refine Ev.congr (f := fun k => senvyref02_CheckMill.j0 k true s li ga fa l) (fun k => by
      unfold senvyref02_CheckMill.f
      by_cases h0 : (l.length : Int) < 1
      · rw [if_pos h0]
      · rw [if_neg h0]; congr 1; simp; omega) ?_
    exact Ev.step (f := fun _ => some 6) (fun k => by simp only [senvyref02_CheckMill.j0]; rw [if_pos trivial]) (Ev.now _)
end Go.Proofs.Ytpoopogojocolaa.P
