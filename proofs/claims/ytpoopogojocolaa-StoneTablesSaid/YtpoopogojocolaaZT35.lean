/- The contracts of stone's Worth. -/
import Derived.Test.YtpoopogojocolaaZT34
namespace Go.Proofs.Ytpoopogojocolaa.P
open Go.RowKit Go.Shelf Go.Proofs.YtpoopogojocolaaW.PrintWords Go.Proofs.YtpoopogojocolaaW.PrintLast Go.Proofs.YtpoopogojocolaaW.PrintMore
attribute [local go_sem] max2_mx min2_mn max_two min_two
set_option linter.unusedVariables false
set_option linter.unusedSimpArgs false
def stone_Worth.f (a0_0 a0_1 a0_2 a0_3 : Int) (l0_4 : List S73) : Option (Int × Int) :=
  some (if plannedF a0_0 a0_1 a0_2 a0_3 l0_4 = 0 then (wrap64 (tvF ⟨a0_0, a0_1 + 1, a0_2, a0_3, l0_4, 0⟩ 0 a0_0.toNat - tvF ⟨a0_0, a0_1, a0_2, a0_3, l0_4, 0⟩ 0 a0_0.toNat), 0) else (0, plannedF a0_0 a0_1 a0_2 a0_3 l0_4))
set_option maxHeartbeats 4000000 in
set_option maxRecDepth 100000 in
theorem stone_Worth.calls (a0_0 : Int) (a0_1 : Int) (a0_2 : Int) (a0_3 : Int) (A0_4 : Option Addr) (c0_4 : Nat) (l0_4 : List (S73)) (r1 : Int) (r2 : Int) (w : World) (hr0_4 : Kd.C k73 w A0_4 l0_4.length l0_4) (hc0_4 : l0_4.length ≤ c0_4) (h : stone_Worth.f a0_0 a0_1 a0_2 a0_3 l0_4 = some (r1, r2)) :
    Calls Try.prog 27 #[.agg #[.int .i64 a0_0, .int .i64 a0_1, .int .i64 a0_2, .int .i64 a0_3, .slice A0_4 l0_4.length c0_4]] w fun e w' => e = .returned (.tuple #[.int .i64 r1, .int .i64 r2]) ∧ Below w.heap.size w w' := by
  have HR := Aside0.mk hr0_4
  have HF := Aside0.mk h
  have HB := Aside0.mk (hb1 w (.cells #[.int .i64 a0_0, .int .i64 a0_1, .int .i64 a0_2, .int .i64 a0_3, .slice A0_4 l0_4.length c0_4] 24))
  have K := Aside0.mk (new_blk w (.cells #[.int .i64 a0_0, .int .i64 a0_1, .int .i64 a0_2, .int .i64 a0_3, .slice A0_4 l0_4.length c0_4] 24))
  clear hr0_4 h
  go_enter Try.func27, Try.ntmps27
  go_wp2_with fail
  with_reducible refine (planned56 a0_0 a0_1 a0_2 a0_3 A0_4 c0_4 l0_4 _ (by exact Kd.C_below HR.out HB.out) hc0_4).mono ?_
  rintro e w1 ⟨(⟨he, rfl⟩ | ⟨he, g, T, rfl, hbn, ht, hT⟩), hb⟩
  · have HE := Aside0.mk he
    have h1 : (plannedF a0_0 a0_1 a0_2 a0_3 l0_4 == 0) = false := by simpa using he
    have h2 : (plannedF a0_0 a0_1 a0_2 a0_3 l0_4 != 0) = true := by simpa using he
    clear he
    go_wp2
    go_ret2
    obtain ⟨rfl, rfl⟩ : 0 = r1 ∧ plannedF a0_0 a0_1 a0_2 a0_3 l0_4 = r2 := by have := HF.out; simpa [stone_Worth.f, HE.out] using this
    exact ⟨rfl, below_step HB.out hb⟩
  · have HG := (planned_good he).1
    obtain ⟨sn, rfl⟩ := Int.eq_ofNat_of_zero_le HG.s0
    have hs1 : sn < 42 := by have := HG.sl; have := HG.l4; omega
    have hn := HG.n2
    have HE := Aside0.mk he
    obtain ⟨tv, htv⟩ : ∃ tv, Aside0 (tvF ⟨sn, a0_1, a0_2, a0_3, l0_4, 0⟩ 0 sn = tv) := ⟨_, ⟨rfl⟩⟩
    have e1 := ht.at_ 0 sn (by omega) hs1
    rw [htv.out] at e1
    have HB1 := Aside0.mk (below_step HB.out hb)
    obtain ⟨d0, d1, d2, d3, d4⟩ := blk5 (blk_below K.out hb)
    have z1 := blk_lt (blk_below K.out hb)
    have z2 := ht.lt
    rw [Nat.zero_mul, Nat.zero_add] at e1
    have HGG := Aside0.mk HG
    have K1 := Aside0.mk (blk_below K.out hb)
    have hl0 : 0 ≤ a0_1 := by have := HG.sl; omega
    have hl4 := HG.l4
    clear HG he hbn ht hb hT
    go_upto_region 6 with fail
    obtain ⟨W2, hW2⟩ : ∃ W2, w1.alloc (.cells #[.int .i64 sn, .int .i64 (a0_1 + 1), .int .i64 a0_2, .int .i64 a0_3, .slice A0_4 l0_4.length c0_4, .int .i64 0] 97) = W2 := ⟨_, rfl⟩
    have hn2 : Below w1.heap.size w1 W2 := by rw [← hW2]; exact hb1 _ _
    have HB2 := Aside0.mk (below_step HB1.out hn2)
    have HBN2 : Aside0 (BenchAt W2 w1.heap.size ⟨sn, a0_1 + 1, a0_2, a0_3, l0_4, 0⟩ A0_4 c0_4) := ⟨⟨by rw [← hW2]; exact new_blk _ _, hc0_4, Kd.C_below HR.out HB2.out⟩⟩
    rw [hW2]
    have e1' := pw_cell_below hn2 e1
    have d0' := pw_cell_below hn2 d0
    have z1' := Nat.lt_of_lt_of_le z1 hn2.size
    have z2' := Nat.lt_of_lt_of_le z2 hn2.size
    obtain ⟨tv2, htv2⟩ : ∃ tv2, Aside0 (tvF ⟨sn, a0_1 + 1, a0_2, a0_3, l0_4, 0⟩ 0 sn = tv2) := ⟨_, ⟨rfl⟩⟩
    clear hW2 hn2 e1 d0 d1 d2 d3 d4 z1 z2 HB1 K1
    have HC : Aside0 (∀ (W3 : World) (T3 : Nat), TabB W3 T3 (l0_4.length + 1) (tvF ⟨sn, a0_1 + 1, a0_2, a0_3, l0_4, 0⟩) → W3.cell? ⟨T3, sn, none⟩ = some (.int .i64 tv2) ∧ T3 < W3.heap.size) := ⟨fun W3 T3 ht => by
      have e3 := ht.at_ 0 sn (by omega) hs1
      rw [htv2.out, Nat.zero_mul, Nat.zero_add] at e3
      exact ⟨e3, ht.lt⟩⟩
    have y1 : (0 : Int) < (l0_4.length : Int) + 1 := by omega
    have y2 : (sn : Int) < 42 := by omega
    have y3 : (0 : Int) ≤ sn := by omega
    have q1 : Below W2.heap.size W2 W2.drew := below_drew1 (Below.refl _ _)
    have hcall : ∀ w2, Below W2.heap.size W2 w2 → Calls Try.prog 62 #[.pointer (some ⟨w1.heap.size, 0, none⟩)] w2 fun e w' => ∃ T2, e = .returned (.slice (some ⟨T2, 0, none⟩) (l0_4.length + 1) (l0_4.length + 1)) ∧ w'.cell? ⟨T2, sn, none⟩ = some (.int .i64 tv2) ∧ T2 < w'.heap.size ∧ w'.cell? ⟨T, sn, none⟩ = some (.int .i64 tv) ∧ w'.cell? ⟨w.heap.size, 0, none⟩ = some (.int .i64 sn) ∧ Aside0 (Below W2.heap.size W2 w') := fun w2 h => by
      refine (table62 w1.heap.size ⟨sn, a0_1 + 1, a0_2, a0_3, l0_4, 0⟩ A0_4 c0_4 _ (good_more HGG.out) (HBN2.out.below h)).mono ?_
      rintro e w3 ⟨T2, rfl, ht, hT, hb⟩
      have hb' := below_step h hb
      exact ⟨T2, rfl, (HC.out _ _ ht).1, (HC.out _ _ ht).2, pw_cell_below hb' e1', pw_cell_below hb' d0', ⟨hb'⟩⟩
    go_region_with (go_at_call 62; refine (hcall _ q1).mono ?_; rintro e w3 ⟨T2, rfl, e3, z3, e5, d5, HB3⟩)
    all_goals
      go_simp
      go_wp2
      go_ret2
      obtain ⟨rfl, rfl⟩ : wrap64 (tv2 - tv) = r1 ∧ 0 = r2 := by have := HF.out; simpa [stone_Worth.f, HE.out, htv.out, htv2.out] using this
      exact ⟨by rw [← IntWalk.i64_left]; rfl, below_step HB2.out HB3.out⟩
end Go.Proofs.Ytpoopogojocolaa.P
