/- The contracts of stone's Heats, Safe, checked and CheckPlan. -/
import Derived.Test.YtpoopogojocolaaZT06
import Derived.Test.YtpoopogojocolaaZT07
namespace Go.Proofs.Ytpoopogojocolaa.P
open Go.RowKit Go.Proofs.YtpoopogojocolaaW.PrintWords Go.Proofs.YtpoopogojocolaaW.PrintLast Go.Proofs.YtpoopogojocolaaW.PrintMore
attribute [local go_sem] max2_mx min2_mn max_two min_two
set_option linter.unusedVariables false
set_option linter.unusedSimpArgs false
theorem inR_one {lo hi x : Int} (h : inR lo hi [x] = true) : lo ≤ x ∧ x ≤ hi := by simp [inR] at h; omega
theorem inR_two {lo hi x y : Int} (h : inR lo hi [x, y] = true) : (lo ≤ x ∧ x ≤ hi) ∧ (lo ≤ y ∧ y ≤ hi) := by simp [inR] at h; omega
structure Good (s li ga fa : Int) (l : List S73) : Prop where
  n1 : 1 ≤ l.length
  n2 : l.length ≤ 12
  s0 : 0 ≤ s
  sl : s ≤ li
  l4 : li ≤ 40
  g1 : 1 ≤ ga
  g4 : ga ≤ 40
  f1 : 1 ≤ fa
  f4 : fa ≤ 40
  hs : ∀ h, h ∈ l → 0 ≤ h.f0.f0 ∧ h.f0.f0 ≤ h.f0.f1 ∧ h.f0.f1 ≤ 40 ∧ 1 ≤ h.f1 ∧ h.f1 ≤ 100
theorem good_of {s li ga fa : Int} {l : List S73} (h : checkMillF s li ga fa l = 0) : Good s li ga fa l := by
  unfold checkMillF at h
  split at h
  · omega
  · rename_i h1
    have h1 := inR_one (by simpa using h1)
    split at h
    · omega
    · rename_i h2
      simp only [not_or, Bool.not_eq_false, Bool.not_eq_true] at h2
      obtain ⟨h2, h3, h4, h5⟩ := h2
      have h2 := inR_two h2
      have h4 := inR_two h4
      refine ⟨by omega, by omega, by omega, by omega, by omega, by omega, by omega, by omega, by omega, fun x hx => ?_⟩
      have := List.any_eq_false.1 h5 x hx
      unfold strayF at this
      simp only [Bool.or_eq_true, not_or, Bool.not_eq_true', Bool.not_eq_false, decide_eq_true_eq] at this
      have a := inR_two this.1
      have b := inR_one this.2.2
      omega
theorem open_good {s li ga fa : Int} {l : List S73} {ps : List (List Int)} (h : openF s li ga fa l ps = 0) : Good s li ga fa l ∧ plansErrF l.length ps = 0 := by
  unfold openF at h
  split at h
  · rename_i h0; exact ⟨good_of h0, h⟩
  · rename_i h0; exact absurd h h0
theorem plan_good {n : Nat} {p : List Int} (h : plansErrF n [p] = 0) : p.length = n ∧ ∀ x, x ∈ p → x = 0 ∨ x = 1 := by
  have h : planErrF n p = 0 := by
    simp only [plansErrF] at h
    split at h
    · assumption
    · exact h
  unfold planErrF at h
  split at h
  · omega
  · rename_i h1
    split at h
    · omega
    · rename_i h2
      refine ⟨by omega, fun x hx => ?_⟩
      have := List.any_eq_false.1 (by simpa using h2) x hx
      simp [badN] at this
      omega
theorem heatsF_length (b : Bn) (warm : Bool) : ∀ (heat : Int) (p : List Int) (hs : List S73), p.length = hs.length → (heatsF b warm heat p hs).length = p.length
  | _, [], hs, _ => by rw [heatsF_nil]
  | heat, x :: p, [], h => by simp at h
  | heat, x :: p, y :: hs, h => by simp only [heatsF, List.length_cons]; rw [heatsF_length b warm _ p hs (by simpa using h)]
def stone_Heats.f (a0_0 a0_1 a0_2 a0_3 : Int) (l0_4 : List S73) (l1 : List Int) (a2 : Bool) : Option (List Int × Int) :=
  some (if openF a0_0 a0_1 a0_2 a0_3 l0_4 [l1] = 0 then (heatsF ⟨a0_0, a0_1, a0_2, a0_3, l0_4, 0⟩ a2 a0_0 l1 l0_4, 0) else ([], openF a0_0 a0_1 a0_2 a0_3 l0_4 [l1]))
set_option maxHeartbeats 4000000 in
set_option maxRecDepth 100000 in
theorem stone_Heats.calls (a0_0 : Int) (a0_1 : Int) (a0_2 : Int) (a0_3 : Int) (A0_4 : Option Addr) (c0_4 : Nat) (l0_4 : List (S73)) (A1 : Option Addr) (c1 : Nat) (l1 : List Int) (a2 : Bool) (r1 : List Int) (r2 : Int) (w : World) (hr0_4 : Kd.C k73 w A0_4 l0_4.length l0_4) (hc0_4 : l0_4.length ≤ c0_4) (hr1 : Kd.C (Kd.int .i64) w A1 l1.length l1) (hc1 : l1.length ≤ c1) (h : stone_Heats.f a0_0 a0_1 a0_2 a0_3 l0_4 l1 a2 = some (r1, r2)) :
    Calls Try.prog 12 #[.agg #[.int .i64 a0_0, .int .i64 a0_1, .int .i64 a0_2, .int .i64 a0_3, .slice A0_4 l0_4.length c0_4], .slice A1 l1.length c1, .bool a2] w fun e w' => ∃ v0_ : Value, e = .returned (.tuple #[v0_, .int .i64 r2]) ∧ Kd.R (Kd.int .i64) 2 w' w.heap.size (fun _ => True) v0_ r1 ∧ Below w.heap.size w w' := by
  have HR := Aside0.mk hr0_4
  have HP := Aside0.mk hr1
  have HF := Aside0.mk h
  have HB := Aside0.mk (hb1 w (.cells #[.int .i64 a0_0, .int .i64 a0_1, .int .i64 a0_2, .int .i64 a0_3, .slice A0_4 l0_4.length c0_4] 24))
  clear hr0_4 hr1 h
  go_enter Try.func12, Try.ntmps12
  go_wp2_with fail
  have HB0 := Aside0.mk (below_alloc HB.out (.cells #[.slice A1 l1.length c1] 25))
  with_reducible refine (open43 a0_0 a0_1 a0_2 a0_3 A0_4 c0_4 l0_4 _ 1 1 [l1] _ (by exact Kd.C_below HR.out HB0.out) hc0_4 (by exact C_lit_row _ _ (Kd.C_below HP.out HB.out) hc1 (by simp)) (Nat.le_refl 1)).mono ?_
  rintro e w1 ⟨(⟨he, rfl⟩ | ⟨he, g, rfl, hbn⟩), hb⟩
  · have HE := Aside0.mk he
    have h1 : (openF a0_0 a0_1 a0_2 a0_3 l0_4 [l1] == 0) = false := by simpa using he
    have h2 : (openF a0_0 a0_1 a0_2 a0_3 l0_4 [l1] != 0) = true := by simpa using he
    clear he
    go_wp2
    go_ret2
    obtain ⟨rfl, rfl⟩ : [] = r1 ∧ openF a0_0 a0_1 a0_2 a0_3 l0_4 [l1] = r2 := by have := HF.out; simpa [stone_Heats.f, HE.out] using this
    exact ⟨_, rfl, Kd.R_nil _ _ _ _ _, below_step HB0.out hb⟩
  · obtain ⟨hg, hp⟩ := open_good he
    have HPG := Aside0.mk (plan_good hp).1
    have HG := Aside0.mk hg
    have HBN := Aside0.mk hbn
    have HB1 := Aside0.mk (below_step HB0.out hb)
    obtain ⟨hr1, hr2⟩ : heatsF ⟨a0_0, a0_1, a0_2, a0_3, l0_4, 0⟩ a2 a0_0 l1 l0_4 = r1 ∧ 0 = r2 := by have := HF.out; simpa [stone_Heats.f, he] using this
    have HR1 := Aside0.mk hr1
    subst hr2
    clear hg hp he hbn hb hr1
    go_wp2_with fail
    with_reducible refine (heats44 g _ A0_4 c0_4 A1 l1.length c1 l1 a2 _ HBN.out (by exact Kd.C_below HP.out HB1.out) hc1 HPG.out (by have := HPG.out; have := HG.out.n2; omega)).mono ?_
    rintro e w2 ⟨v, rfl, ho, hb⟩
    have ho : Kd.R (Kd.int .i64) 2 w2 w1.heap.size (fun _ => True) v r1 := by rw [← HR1.out]; exact ho
    obtain ⟨A2, c2, rfl, hl2, hC2⟩ := Kd.R_reads ho
    have HC2 := Aside0.mk hC2
    have HB2 := Aside0.mk (below_step HB1.out hb)
    have hln : r1.length ≤ 9223372036854775807 := hC2.2.1
    have hsm : r1.length ≤ 12 := by rw [← HR1.out, heatsF_length _ _ _ _ _ HPG.out]; have := HPG.out; have := HG.out.n2; omega
    clear ho hb hC2
    have hmk := print_make (P := Try.prog) 31 2 .i64 8 Try.underlying31 info2 (by decide) r1.length (by omega)
    go_wp2_with (refine Kd.R_copy (h1 := fun _ => rfl) (enc := Value.int .i64) (0 : Int) (w0 := w) w.heap.size rfl (.tmp 29) (.tmp 30) 31 31 2 rfl Try.underlying31 (by kernel_rfl) (.slice (some ⟨w2.heap.size, 0, none⟩) r1.length r1.length) (List.replicate r1.length 0) r1 A2 r1.length c2 (fun _ => True) rfl rfl ?aO ?aC ?aB ?aS ?_; (case aO => exact R_made .i64 _ w2 _ _ (below_size HB2.out) hln rfl); (case aC => exact Kd.C_below HC2.out (hb1 _ _)); (case aB => exact below_alloc HB2.out _); (case aS => have := below_size HB2.out; simp; omega); intro w3 ho3 hb3 hg3; have HO3 := Aside0.mk ho3; have HB3 := Aside0.mk hb3; clear ho3 hb3 hg3)
    go_ret2
    exact ⟨_, rfl, by have := HO3.out; rw [copy_all] at this; exact this, HB3.out⟩
end Go.Proofs.Ytpoopogojocolaa.P
