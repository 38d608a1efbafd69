/- The contract of the law's Works: it holds. -/
import Derived.Deep.RegionHeld3
import Derived.Test.YtpoopogojocolaaZT46
namespace Go.Proofs.Ytpoopogojocolaa.P
open Go.RowKit Go.Shelf Go.Proofs.YtpoopogojocolaaW.PrintWords Go.Proofs.YtpoopogojocolaaW.PrintLast Go.Proofs.YtpoopogojocolaaW.PrintMore
attribute [local go_sem] max2_mx min2_mn max_two min_two
set_option linter.unusedVariables false
set_option linter.unusedSimpArgs false
set_option maxHeartbeats 400000000 in
set_option maxRecDepth 1000000 in
theorem works9 (w : World) : Calls Try.prog 9 #[] w fun e w' => e = .returned (.bool true) ∧ Below w.heap.size w w' := by
  go_enter Try.func9, Try.ntmps9
  go_wp2_with fail
  with_reducible refine (w_five20 _).mono ?_
  rintro e w1 ⟨A, c, rfl, hC, hc, hb⟩
  obtain ⟨W0, hW0⟩ : ∃ W0, w1.alloc (.cells #[.int .i64 10, .int .i64 20, .int .i64 6, .int .i64 4, .slice A fiveH.length c] 24) = W0 := ⟨_, rfl⟩
  have hb0 : Below w1.heap.size w1 W0 := by rw [← hW0]; exact hb1 _ _
  have HM := Aside0.mk (show W0.heap[w1.heap.size]? = some (.cells #[.int .i64 10, .int .i64 20, .int .i64 6, .int .i64 4, .slice A fiveH.length c] 24 (0, 0)) from by rw [← hW0]; exact new_blk _ _)
  have HB := Aside0.mk (below_step hb hb0)
  have HC := Aside0.mk (Kd.C_below hC hb0)
  go_upto_region 2 with fail
  try rw [hW0]
  clear hb hC hb0 hW0
  obtain ⟨m0, m1, m2, m3, m4⟩ := blk5 HM.out
  have z0 := blk_lt HM.out
  have q0 : Below W0.heap.size W0 W0.drew := below_drew1 (Below.refl _ _)
  have q1 : ∀ o, Below W0.heap.size W0 (W0.alloc o).drew := fun o => below_drew1 (hb1 _ _)
  go_region_held3 (fun X => X.cell? ⟨w1.heap.size, 0, none⟩ = some (.int .i64 10) ∧ X.cell? ⟨w1.heap.size, 1, none⟩ = some (.int .i64 20) ∧ X.cell? ⟨w1.heap.size, 2, none⟩ = some (.int .i64 6) ∧ X.cell? ⟨w1.heap.size, 3, none⟩ = some (.int .i64 4) ∧ X.cell? ⟨w1.heap.size, 4, none⟩ = some (.slice A fiveH.length c) ∧ Aside0 (Below W0.heap.size W0 X))
    (first | with_reducible exact ⟨pw_cell_below q0 m0, pw_cell_below q0 m1, pw_cell_below q0 m2, pw_cell_below q0 m3, pw_cell_below q0 m4, ⟨q0⟩⟩ | with_reducible exact ⟨pw_cell_below (q1 _) m0, pw_cell_below (q1 _) m1, pw_cell_below (q1 _) m2, pw_cell_below (q1 _) m3, pw_cell_below (q1 _) m4, ⟨(q1 _)⟩⟩ | exact ⟨pw_cell_below HX.out m0, pw_cell_below HX.out m1, pw_cell_below HX.out m2, pw_cell_below HX.out m3, pw_cell_below HX.out m4, ⟨HX.out⟩⟩)
    (first | (go_at_call 41; with_reducible refine (of41 _ _).mono ?_; rintro e V ⟨rfl, rfl⟩) | (go_at_call 12; refine (w_heats1 _ A c (by exact Kd.C_below HC.out (q1 _)) hc W0.heap.size _ (by exact new_blk W0 _)).mono ?_; rintro e W1 ⟨A_heats1, c_heats1, rfl, hr_heats1, hl_heats1, hb⟩; have HX := Aside0.mk ((q1 _).trans (hb.mono (q1 (.cells #[.int .i64 1, .int .i64 0, .int .i64 1, .int .i64 0, .int .i64 1] 3)).size)); clear hb))
  have HR_heats1 := Aside0.mk hr_heats1
  clear hr_heats1
  replace HM := Aside0.mk (blk_below HM.out HX.out)
  replace HC := Aside0.mk (Kd.C_below HC.out HX.out)
  replace HB := Aside0.mk (below_step HB.out HX.out)
  clear HX q0 q1 m0 m1 m2 m3 m4 z0
  go_upto_region 3 with fail
  obtain ⟨m0, m1, m2, m3, m4⟩ := blk5 HM.out
  have z0 := blk_lt HM.out
  have q0 : Below W1.heap.size W1 W1.drew := below_drew1 (Below.refl _ _)
  have q1 : ∀ o, Below W1.heap.size W1 (W1.alloc o).drew := fun o => below_drew1 (hb1 _ _)
  go_region_held3 (fun X => X.cell? ⟨w1.heap.size, 0, none⟩ = some (.int .i64 10) ∧ X.cell? ⟨w1.heap.size, 1, none⟩ = some (.int .i64 20) ∧ X.cell? ⟨w1.heap.size, 2, none⟩ = some (.int .i64 6) ∧ X.cell? ⟨w1.heap.size, 3, none⟩ = some (.int .i64 4) ∧ X.cell? ⟨w1.heap.size, 4, none⟩ = some (.slice A fiveH.length c) ∧ Aside0 (Below W1.heap.size W1 X))
    (first | with_reducible exact ⟨pw_cell_below q0 m0, pw_cell_below q0 m1, pw_cell_below q0 m2, pw_cell_below q0 m3, pw_cell_below q0 m4, ⟨q0⟩⟩ | with_reducible exact ⟨pw_cell_below (q1 _) m0, pw_cell_below (q1 _) m1, pw_cell_below (q1 _) m2, pw_cell_below (q1 _) m3, pw_cell_below (q1 _) m4, ⟨(q1 _)⟩⟩ | exact ⟨pw_cell_below HX.out m0, pw_cell_below HX.out m1, pw_cell_below HX.out m2, pw_cell_below HX.out m3, pw_cell_below HX.out m4, ⟨HX.out⟩⟩)
    (first | (go_at_call 41; with_reducible refine (of41 _ _).mono ?_; rintro e V ⟨rfl, rfl⟩) | (go_at_call 12; refine (w_heats2 _ A c (by exact Kd.C_below HC.out (q1 _)) hc W1.heap.size _ (by exact new_blk W1 _)).mono ?_; rintro e W2 ⟨A_heats2, c_heats2, rfl, hr_heats2, hl_heats2, hb⟩; have HX := Aside0.mk ((q1 _).trans (hb.mono (q1 (.cells #[.int .i64 0, .int .i64 0, .int .i64 1, .int .i64 0, .int .i64 0] 3)).size)); clear hb))
  have HR_heats2 := Aside0.mk hr_heats2
  clear hr_heats2
  replace HM := Aside0.mk (blk_below HM.out HX.out)
  replace HC := Aside0.mk (Kd.C_below HC.out HX.out)
  replace HB := Aside0.mk (below_step HB.out HX.out)
  replace HR_heats1 := Aside0.mk (Kd.C_below HR_heats1.out HX.out)
  clear HX q0 q1 m0 m1 m2 m3 m4 z0
  go_upto_region 4 with fail
  obtain ⟨m0, m1, m2, m3, m4⟩ := blk5 HM.out
  have z0 := blk_lt HM.out
  have q0 : Below W2.heap.size W2 W2.drew := below_drew1 (Below.refl _ _)
  have q1 : ∀ o, Below W2.heap.size W2 (W2.alloc o).drew := fun o => below_drew1 (hb1 _ _)
  go_region_held3 (fun X => X.cell? ⟨w1.heap.size, 0, none⟩ = some (.int .i64 10) ∧ X.cell? ⟨w1.heap.size, 1, none⟩ = some (.int .i64 20) ∧ X.cell? ⟨w1.heap.size, 2, none⟩ = some (.int .i64 6) ∧ X.cell? ⟨w1.heap.size, 3, none⟩ = some (.int .i64 4) ∧ X.cell? ⟨w1.heap.size, 4, none⟩ = some (.slice A fiveH.length c) ∧ Aside0 (Below W2.heap.size W2 X))
    (first | with_reducible exact ⟨pw_cell_below q0 m0, pw_cell_below q0 m1, pw_cell_below q0 m2, pw_cell_below q0 m3, pw_cell_below q0 m4, ⟨q0⟩⟩ | with_reducible exact ⟨pw_cell_below (q1 _) m0, pw_cell_below (q1 _) m1, pw_cell_below (q1 _) m2, pw_cell_below (q1 _) m3, pw_cell_below (q1 _) m4, ⟨(q1 _)⟩⟩ | exact ⟨pw_cell_below HX.out m0, pw_cell_below HX.out m1, pw_cell_below HX.out m2, pw_cell_below HX.out m3, pw_cell_below HX.out m4, ⟨HX.out⟩⟩)
    (first | (go_at_call 41; with_reducible refine (of41 _ _).mono ?_; rintro e V ⟨rfl, rfl⟩) | (go_at_call 14; refine (w_plan1 _ A c (by exact Kd.C_below HC.out (q1 _)) hc W2.heap.size _ (by exact new_blk W2 _)).mono ?_; rintro e W3 ⟨rfl, hb⟩; have HX := Aside0.mk ((q1 _).trans (hb.mono (q1 (.cells #[.int .i64 0, .int .i64 1, .int .i64 0, .int .i64 1, .int .i64 0] 3)).size)); clear hb))
  replace HM := Aside0.mk (blk_below HM.out HX.out)
  replace HC := Aside0.mk (Kd.C_below HC.out HX.out)
  replace HB := Aside0.mk (below_step HB.out HX.out)
  replace HR_heats1 := Aside0.mk (Kd.C_below HR_heats1.out HX.out)
  replace HR_heats2 := Aside0.mk (Kd.C_below HR_heats2.out HX.out)
  clear HX q0 q1 m0 m1 m2 m3 m4 z0
  go_upto_region 5 with fail
  obtain ⟨m0, m1, m2, m3, m4⟩ := blk5 HM.out
  have z0 := blk_lt HM.out
  have q0 : Below W3.heap.size W3 W3.drew := below_drew1 (Below.refl _ _)
  have q1 : ∀ o, Below W3.heap.size W3 (W3.alloc o).drew := fun o => below_drew1 (hb1 _ _)
  go_region_held3 (fun X => X.cell? ⟨w1.heap.size, 0, none⟩ = some (.int .i64 10) ∧ X.cell? ⟨w1.heap.size, 1, none⟩ = some (.int .i64 20) ∧ X.cell? ⟨w1.heap.size, 2, none⟩ = some (.int .i64 6) ∧ X.cell? ⟨w1.heap.size, 3, none⟩ = some (.int .i64 4) ∧ X.cell? ⟨w1.heap.size, 4, none⟩ = some (.slice A fiveH.length c) ∧ Aside0 (Below W3.heap.size W3 X))
    (first | with_reducible exact ⟨pw_cell_below q0 m0, pw_cell_below q0 m1, pw_cell_below q0 m2, pw_cell_below q0 m3, pw_cell_below q0 m4, ⟨q0⟩⟩ | with_reducible exact ⟨pw_cell_below (q1 _) m0, pw_cell_below (q1 _) m1, pw_cell_below (q1 _) m2, pw_cell_below (q1 _) m3, pw_cell_below (q1 _) m4, ⟨(q1 _)⟩⟩ | exact ⟨pw_cell_below HX.out m0, pw_cell_below HX.out m1, pw_cell_below HX.out m2, pw_cell_below HX.out m3, pw_cell_below HX.out m4, ⟨HX.out⟩⟩)
    (first | (go_at_call 41; with_reducible refine (of41 _ _).mono ?_; rintro e V ⟨rfl, rfl⟩) | (go_at_call 14; refine (w_plan2 _ A c (by exact Kd.C_below HC.out (q1 _)) hc W3.heap.size _ (by exact new_blk W3 _)).mono ?_; rintro e W4 ⟨rfl, hb⟩; have HX := Aside0.mk ((q1 _).trans (hb.mono (q1 (.cells #[.int .i64 1, .int .i64 1, .int .i64 0, .int .i64 0, .int .i64 0] 3)).size)); clear hb))
  replace HM := Aside0.mk (blk_below HM.out HX.out)
  replace HC := Aside0.mk (Kd.C_below HC.out HX.out)
  replace HB := Aside0.mk (below_step HB.out HX.out)
  replace HR_heats1 := Aside0.mk (Kd.C_below HR_heats1.out HX.out)
  replace HR_heats2 := Aside0.mk (Kd.C_below HR_heats2.out HX.out)
  clear HX q0 q1 m0 m1 m2 m3 m4 z0
  go_upto_region 6 with fail
  obtain ⟨m0, m1, m2, m3, m4⟩ := blk5 HM.out
  have z0 := blk_lt HM.out
  have q0 : Below W4.heap.size W4 W4.drew := below_drew1 (Below.refl _ _)
  have q1 : ∀ o, Below W4.heap.size W4 (W4.alloc o).drew := fun o => below_drew1 (hb1 _ _)
  go_region_held3 (fun X => X.cell? ⟨w1.heap.size, 0, none⟩ = some (.int .i64 10) ∧ X.cell? ⟨w1.heap.size, 1, none⟩ = some (.int .i64 20) ∧ X.cell? ⟨w1.heap.size, 2, none⟩ = some (.int .i64 6) ∧ X.cell? ⟨w1.heap.size, 3, none⟩ = some (.int .i64 4) ∧ X.cell? ⟨w1.heap.size, 4, none⟩ = some (.slice A fiveH.length c) ∧ Aside0 (Below W4.heap.size W4 X))
    (first | with_reducible exact ⟨pw_cell_below q0 m0, pw_cell_below q0 m1, pw_cell_below q0 m2, pw_cell_below q0 m3, pw_cell_below q0 m4, ⟨q0⟩⟩ | with_reducible exact ⟨pw_cell_below (q1 _) m0, pw_cell_below (q1 _) m1, pw_cell_below (q1 _) m2, pw_cell_below (q1 _) m3, pw_cell_below (q1 _) m4, ⟨(q1 _)⟩⟩ | exact ⟨pw_cell_below HX.out m0, pw_cell_below HX.out m1, pw_cell_below HX.out m2, pw_cell_below HX.out m3, pw_cell_below HX.out m4, ⟨HX.out⟩⟩)
    (first | (go_at_call 41; with_reducible refine (of41 _ _).mono ?_; rintro e V ⟨rfl, rfl⟩) | (go_at_call 14; refine (w_plan3 _ A c (by exact Kd.C_below HC.out (q1 _)) hc W4.heap.size _ (by exact new_blk W4 _)).mono ?_; rintro e W5 ⟨rfl, hb⟩; have HX := Aside0.mk ((q1 _).trans (hb.mono (q1 (.cells #[.int .i64 1, .int .i64 0] 3)).size)); clear hb))
  replace HM := Aside0.mk (blk_below HM.out HX.out)
  replace HC := Aside0.mk (Kd.C_below HC.out HX.out)
  replace HB := Aside0.mk (below_step HB.out HX.out)
  replace HR_heats1 := Aside0.mk (Kd.C_below HR_heats1.out HX.out)
  replace HR_heats2 := Aside0.mk (Kd.C_below HR_heats2.out HX.out)
  clear HX q0 q1 m0 m1 m2 m3 m4 z0
  go_upto_region 7 with fail
  obtain ⟨m0, m1, m2, m3, m4⟩ := blk5 HM.out
  have z0 := blk_lt HM.out
  have q0 : Below W5.heap.size W5 W5.drew := below_drew1 (Below.refl _ _)
  have q1 : ∀ o, Below W5.heap.size W5 (W5.alloc o).drew := fun o => below_drew1 (hb1 _ _)
  go_region_held3 (fun X => X.cell? ⟨w1.heap.size, 0, none⟩ = some (.int .i64 10) ∧ X.cell? ⟨w1.heap.size, 1, none⟩ = some (.int .i64 20) ∧ X.cell? ⟨w1.heap.size, 2, none⟩ = some (.int .i64 6) ∧ X.cell? ⟨w1.heap.size, 3, none⟩ = some (.int .i64 4) ∧ X.cell? ⟨w1.heap.size, 4, none⟩ = some (.slice A fiveH.length c) ∧ Aside0 (Below W5.heap.size W5 X))
    (first | with_reducible exact ⟨pw_cell_below q0 m0, pw_cell_below q0 m1, pw_cell_below q0 m2, pw_cell_below q0 m3, pw_cell_below q0 m4, ⟨q0⟩⟩ | with_reducible exact ⟨pw_cell_below (q1 _) m0, pw_cell_below (q1 _) m1, pw_cell_below (q1 _) m2, pw_cell_below (q1 _) m3, pw_cell_below (q1 _) m4, ⟨(q1 _)⟩⟩ | exact ⟨pw_cell_below HX.out m0, pw_cell_below HX.out m1, pw_cell_below HX.out m2, pw_cell_below HX.out m3, pw_cell_below HX.out m4, ⟨HX.out⟩⟩)
    (first | (go_at_call 41; with_reducible refine (of41 _ _).mono ?_; rintro e V ⟨rfl, rfl⟩) | (go_at_call 14; refine (w_plan4 _ A c (by exact Kd.C_below HC.out (q1 _)) hc W5.heap.size _ (by exact new_blk W5 _)).mono ?_; rintro e W6 ⟨rfl, hb⟩; have HX := Aside0.mk ((q1 _).trans (hb.mono (q1 (.cells #[.int .i64 1, .int .i64 0, .int .i64 1, .int .i64 0, .int .i64 2] 3)).size)); clear hb))
  replace HM := Aside0.mk (blk_below HM.out HX.out)
  replace HC := Aside0.mk (Kd.C_below HC.out HX.out)
  replace HB := Aside0.mk (below_step HB.out HX.out)
  replace HR_heats1 := Aside0.mk (Kd.C_below HR_heats1.out HX.out)
  replace HR_heats2 := Aside0.mk (Kd.C_below HR_heats2.out HX.out)
  clear HX q0 q1 m0 m1 m2 m3 m4 z0
  go_upto_region 8 with fail
  obtain ⟨m0, m1, m2, m3, m4⟩ := blk5 HM.out
  have z0 := blk_lt HM.out
  have q0 : Below W6.heap.size W6 W6.drew := below_drew1 (Below.refl _ _)
  have q1 : ∀ o, Below W6.heap.size W6 (W6.alloc o).drew := fun o => below_drew1 (hb1 _ _)
  go_region_held3 (fun X => X.cell? ⟨w1.heap.size, 0, none⟩ = some (.int .i64 10) ∧ X.cell? ⟨w1.heap.size, 1, none⟩ = some (.int .i64 20) ∧ X.cell? ⟨w1.heap.size, 2, none⟩ = some (.int .i64 6) ∧ X.cell? ⟨w1.heap.size, 3, none⟩ = some (.int .i64 4) ∧ X.cell? ⟨w1.heap.size, 4, none⟩ = some (.slice A fiveH.length c) ∧ Aside0 (Below W6.heap.size W6 X))
    (first | with_reducible exact ⟨pw_cell_below q0 m0, pw_cell_below q0 m1, pw_cell_below q0 m2, pw_cell_below q0 m3, pw_cell_below q0 m4, ⟨q0⟩⟩ | with_reducible exact ⟨pw_cell_below (q1 _) m0, pw_cell_below (q1 _) m1, pw_cell_below (q1 _) m2, pw_cell_below (q1 _) m3, pw_cell_below (q1 _) m4, ⟨(q1 _)⟩⟩ | exact ⟨pw_cell_below HX.out m0, pw_cell_below HX.out m1, pw_cell_below HX.out m2, pw_cell_below HX.out m3, pw_cell_below HX.out m4, ⟨HX.out⟩⟩)
    (first | (go_at_call 41; with_reducible refine (of41 _ _).mono ?_; rintro e V ⟨rfl, rfl⟩) | (go_at_call 16; refine (w_safe1 _ A c (by exact Kd.C_below HC.out (q1 _)) hc W6.heap.size _ (by exact new_blk W6 _)).mono ?_; rintro e W7 ⟨rfl, hb⟩; have HX := Aside0.mk ((q1 _).trans (hb.mono (q1 (.cells #[.int .i64 1, .int .i64 0, .int .i64 1, .int .i64 0, .int .i64 1] 3)).size)); clear hb))
  replace HM := Aside0.mk (blk_below HM.out HX.out)
  replace HC := Aside0.mk (Kd.C_below HC.out HX.out)
  replace HB := Aside0.mk (below_step HB.out HX.out)
  replace HR_heats1 := Aside0.mk (Kd.C_below HR_heats1.out HX.out)
  replace HR_heats2 := Aside0.mk (Kd.C_below HR_heats2.out HX.out)
  clear HX q0 q1 m0 m1 m2 m3 m4 z0
  go_upto_region 9 with fail
  obtain ⟨m0, m1, m2, m3, m4⟩ := blk5 HM.out
  have z0 := blk_lt HM.out
  have q0 : Below W7.heap.size W7 W7.drew := below_drew1 (Below.refl _ _)
  have q1 : ∀ o, Below W7.heap.size W7 (W7.alloc o).drew := fun o => below_drew1 (hb1 _ _)
  go_region_held3 (fun X => X.cell? ⟨w1.heap.size, 0, none⟩ = some (.int .i64 10) ∧ X.cell? ⟨w1.heap.size, 1, none⟩ = some (.int .i64 20) ∧ X.cell? ⟨w1.heap.size, 2, none⟩ = some (.int .i64 6) ∧ X.cell? ⟨w1.heap.size, 3, none⟩ = some (.int .i64 4) ∧ X.cell? ⟨w1.heap.size, 4, none⟩ = some (.slice A fiveH.length c) ∧ Aside0 (Below W7.heap.size W7 X))
    (first | with_reducible exact ⟨pw_cell_below q0 m0, pw_cell_below q0 m1, pw_cell_below q0 m2, pw_cell_below q0 m3, pw_cell_below q0 m4, ⟨q0⟩⟩ | with_reducible exact ⟨pw_cell_below (q1 _) m0, pw_cell_below (q1 _) m1, pw_cell_below (q1 _) m2, pw_cell_below (q1 _) m3, pw_cell_below (q1 _) m4, ⟨(q1 _)⟩⟩ | exact ⟨pw_cell_below HX.out m0, pw_cell_below HX.out m1, pw_cell_below HX.out m2, pw_cell_below HX.out m3, pw_cell_below HX.out m4, ⟨HX.out⟩⟩)
    (first | (go_at_call 41; with_reducible refine (of41 _ _).mono ?_; rintro e V ⟨rfl, rfl⟩) | (go_at_call 16; refine (w_safe2 _ A c (by exact Kd.C_below HC.out (q1 _)) hc W7.heap.size _ (by exact new_blk W7 _)).mono ?_; rintro e W8 ⟨rfl, hb⟩; have HX := Aside0.mk ((q1 _).trans (hb.mono (q1 (.cells #[.int .i64 1, .int .i64 1, .int .i64 0, .int .i64 0, .int .i64 0] 3)).size)); clear hb))
  replace HM := Aside0.mk (blk_below HM.out HX.out)
  replace HC := Aside0.mk (Kd.C_below HC.out HX.out)
  replace HB := Aside0.mk (below_step HB.out HX.out)
  replace HR_heats1 := Aside0.mk (Kd.C_below HR_heats1.out HX.out)
  replace HR_heats2 := Aside0.mk (Kd.C_below HR_heats2.out HX.out)
  clear HX q0 q1 m0 m1 m2 m3 m4 z0
  go_wp2_with fail
  with_reducible refine (w_five17 _).mono ?_
  rintro e V10 ⟨A_10, c_10, rfl, hD, hd10, hb⟩
  have HD := Aside0.mk hD
  clear hD
  replace HM := Aside0.mk (blk_below HM.out hb)
  replace HC := Aside0.mk (Kd.C_below HC.out hb)
  replace HB := Aside0.mk (below_step HB.out hb)
  replace HR_heats1 := Aside0.mk (Kd.C_below HR_heats1.out hb)
  replace HR_heats2 := Aside0.mk (Kd.C_below HR_heats2.out hb)
  clear hb
  go_wp2_with fail
  with_reducible refine (of41 _ _).mono ?_
  rintro e V ⟨rfl, rfl⟩
  have hb' := hb1 V10 (.cells #[.int .i64 0, .int .i64 0, .int .i64 1, .int .i64 0, .int .i64 0] 3)
  replace HM := Aside0.mk (blk_below HM.out hb')
  replace HC := Aside0.mk (Kd.C_below HC.out hb')
  replace HB := Aside0.mk (below_step HB.out hb')
  replace HR_heats1 := Aside0.mk (Kd.C_below HR_heats1.out hb')
  replace HR_heats2 := Aside0.mk (Kd.C_below HR_heats2.out hb')
  go_wp2_with fail
  refine (w_safe3 _ A_10 c_10 (by exact Kd.C_below HD.out hb') hd10 V10.heap.size _ (by exact new_blk _ _)).mono ?_
  clear hb'
  rintro e W9 ⟨rfl, hb⟩
  replace HM := Aside0.mk (blk_below HM.out hb)
  replace HC := Aside0.mk (Kd.C_below HC.out hb)
  replace HB := Aside0.mk (below_step HB.out hb)
  replace HR_heats1 := Aside0.mk (Kd.C_below HR_heats1.out hb)
  replace HR_heats2 := Aside0.mk (Kd.C_below HR_heats2.out hb)
  clear hb HD
  obtain ⟨m0, m1, m2, m3, m4⟩ := blk5 HM.out
  have z0 := blk_lt HM.out
  go_wp2_with fail
  refine (w_most1 _ A c HC.out hc).mono ?_
  rintro e W10 ⟨rfl, hb⟩
  replace HM := Aside0.mk (blk_below HM.out hb)
  replace HC := Aside0.mk (Kd.C_below HC.out hb)
  replace HB := Aside0.mk (below_step HB.out hb)
  replace HR_heats1 := Aside0.mk (Kd.C_below HR_heats1.out hb)
  replace HR_heats2 := Aside0.mk (Kd.C_below HR_heats2.out hb)
  clear hb m0 m1 m2 m3 m4 z0
  obtain ⟨m0, m1, m2, m3, m4⟩ := blk5 HM.out
  have z0 := blk_lt HM.out
  go_wp2_with fail
  refine (w_best1 _ A c HC.out hc).mono ?_
  rintro e W11 ⟨A_best1, c_best1, rfl, hr_best1, hl_best1, hb⟩
  have HR_best1 := Aside0.mk hr_best1
  clear hr_best1
  replace HM := Aside0.mk (blk_below HM.out hb)
  replace HC := Aside0.mk (Kd.C_below HC.out hb)
  replace HB := Aside0.mk (below_step HB.out hb)
  replace HR_heats1 := Aside0.mk (Kd.C_below HR_heats1.out hb)
  replace HR_heats2 := Aside0.mk (Kd.C_below HR_heats2.out hb)
  clear hb m0 m1 m2 m3 m4 z0
  go_wp2_with fail
  with_reducible refine (w_five11 _).mono ?_
  rintro e V13 ⟨A_13, c_13, rfl, hD, hd13, hb⟩
  have HD := Aside0.mk hD
  clear hD
  replace HM := Aside0.mk (blk_below HM.out hb)
  replace HC := Aside0.mk (Kd.C_below HC.out hb)
  replace HB := Aside0.mk (below_step HB.out hb)
  replace HR_heats1 := Aside0.mk (Kd.C_below HR_heats1.out hb)
  replace HR_heats2 := Aside0.mk (Kd.C_below HR_heats2.out hb)
  replace HR_best1 := Aside0.mk (Kd.C_below HR_best1.out hb)
  clear hb
  go_wp2_with fail
  refine (w_best2 _ A_13 c_13 HD.out hd13).mono ?_
  rintro e W12 ⟨A_best2, c_best2, rfl, hr_best2, hl_best2, hb⟩
  have HR_best2 := Aside0.mk hr_best2
  clear hr_best2
  replace HM := Aside0.mk (blk_below HM.out hb)
  replace HC := Aside0.mk (Kd.C_below HC.out hb)
  replace HB := Aside0.mk (below_step HB.out hb)
  replace HR_heats1 := Aside0.mk (Kd.C_below HR_heats1.out hb)
  replace HR_heats2 := Aside0.mk (Kd.C_below HR_heats2.out hb)
  replace HR_best1 := Aside0.mk (Kd.C_below HR_best1.out hb)
  clear hb HD
  obtain ⟨m0, m1, m2, m3, m4⟩ := blk5 HM.out
  have z0 := blk_lt HM.out
  go_wp2_with fail
  refine (w_tab1 _ A c HC.out hc).mono ?_
  rintro e W13 ⟨A_tab1, c_tab1, rfl, hr_tab1, hl_tab1, hb⟩
  have HR_tab1 := Aside0.mk hr_tab1
  clear hr_tab1
  replace HM := Aside0.mk (blk_below HM.out hb)
  replace HC := Aside0.mk (Kd.C_below HC.out hb)
  replace HB := Aside0.mk (below_step HB.out hb)
  replace HR_heats1 := Aside0.mk (Kd.C_below HR_heats1.out hb)
  replace HR_heats2 := Aside0.mk (Kd.C_below HR_heats2.out hb)
  replace HR_best1 := Aside0.mk (Kd.C_below HR_best1.out hb)
  replace HR_best2 := Aside0.mk (Kd.C_below HR_best2.out hb)
  clear hb m0 m1 m2 m3 m4 z0
  go_upto_region 15 with fail
  obtain ⟨m0, m1, m2, m3, m4⟩ := blk5 HM.out
  have z0 := blk_lt HM.out
  have q0 : Below W13.heap.size W13 W13.drew := below_drew1 (Below.refl _ _)
  have q1 : ∀ o, Below W13.heap.size W13 (W13.alloc o).drew := fun o => below_drew1 (hb1 _ _)
  go_region_held3 (fun X => X.cell? ⟨w1.heap.size, 0, none⟩ = some (.int .i64 10) ∧ X.cell? ⟨w1.heap.size, 1, none⟩ = some (.int .i64 20) ∧ X.cell? ⟨w1.heap.size, 2, none⟩ = some (.int .i64 6) ∧ X.cell? ⟨w1.heap.size, 3, none⟩ = some (.int .i64 4) ∧ X.cell? ⟨w1.heap.size, 4, none⟩ = some (.slice A fiveH.length c) ∧ Aside0 (Below W13.heap.size W13 X))
    (first | with_reducible exact ⟨pw_cell_below q0 m0, pw_cell_below q0 m1, pw_cell_below q0 m2, pw_cell_below q0 m3, pw_cell_below q0 m4, ⟨q0⟩⟩ | with_reducible exact ⟨pw_cell_below (q1 _) m0, pw_cell_below (q1 _) m1, pw_cell_below (q1 _) m2, pw_cell_below (q1 _) m3, pw_cell_below (q1 _) m4, ⟨(q1 _)⟩⟩ | exact ⟨pw_cell_below HX.out m0, pw_cell_below HX.out m1, pw_cell_below HX.out m2, pw_cell_below HX.out m3, pw_cell_below HX.out m4, ⟨HX.out⟩⟩)
    (first | (go_at_call 41; with_reducible refine (of41 _ _).mono ?_; rintro e V ⟨rfl, rfl⟩) | (go_at_call 30; refine (w_spare1 _ A c (by exact Kd.C_below HC.out (q1 _)) hc W13.heap.size _ (by exact new_blk W13 _)).mono ?_; rintro e W14 ⟨rfl, hb⟩; have HX := Aside0.mk ((q1 _).trans (hb.mono (q1 (.cells #[.int .i64 0, .int .i64 1, .int .i64 0, .int .i64 1, .int .i64 0] 3)).size)); clear hb))
  replace HM := Aside0.mk (blk_below HM.out HX.out)
  replace HC := Aside0.mk (Kd.C_below HC.out HX.out)
  replace HB := Aside0.mk (below_step HB.out HX.out)
  replace HR_heats1 := Aside0.mk (Kd.C_below HR_heats1.out HX.out)
  replace HR_heats2 := Aside0.mk (Kd.C_below HR_heats2.out HX.out)
  replace HR_best1 := Aside0.mk (Kd.C_below HR_best1.out HX.out)
  replace HR_best2 := Aside0.mk (Kd.C_below HR_best2.out HX.out)
  replace HR_tab1 := Aside0.mk (Kd.C_below HR_tab1.out HX.out)
  clear HX q0 q1 m0 m1 m2 m3 m4 z0
  go_upto_region 16 with fail
  obtain ⟨m0, m1, m2, m3, m4⟩ := blk5 HM.out
  have z0 := blk_lt HM.out
  have q0 : Below W14.heap.size W14 W14.drew := below_drew1 (Below.refl _ _)
  have q1 : ∀ o, Below W14.heap.size W14 (W14.alloc o).drew := fun o => below_drew1 (hb1 _ _)
  go_region_held3 (fun X => X.cell? ⟨w1.heap.size, 0, none⟩ = some (.int .i64 10) ∧ X.cell? ⟨w1.heap.size, 1, none⟩ = some (.int .i64 20) ∧ X.cell? ⟨w1.heap.size, 2, none⟩ = some (.int .i64 6) ∧ X.cell? ⟨w1.heap.size, 3, none⟩ = some (.int .i64 4) ∧ X.cell? ⟨w1.heap.size, 4, none⟩ = some (.slice A fiveH.length c) ∧ Aside0 (Below W14.heap.size W14 X))
    (first | with_reducible exact ⟨pw_cell_below q0 m0, pw_cell_below q0 m1, pw_cell_below q0 m2, pw_cell_below q0 m3, pw_cell_below q0 m4, ⟨q0⟩⟩ | with_reducible exact ⟨pw_cell_below (q1 _) m0, pw_cell_below (q1 _) m1, pw_cell_below (q1 _) m2, pw_cell_below (q1 _) m3, pw_cell_below (q1 _) m4, ⟨(q1 _)⟩⟩ | exact ⟨pw_cell_below HX.out m0, pw_cell_below HX.out m1, pw_cell_below HX.out m2, pw_cell_below HX.out m3, pw_cell_below HX.out m4, ⟨HX.out⟩⟩)
    (first | (go_at_call 41; with_reducible refine (of41 _ _).mono ?_; rintro e V ⟨rfl, rfl⟩) | (go_at_call 32; refine (w_late1 _ A c (by exact Kd.C_below HC.out (q1 _)) hc W14.heap.size _ (by exact new_blk W14 _)).mono ?_; rintro e W15 ⟨A_late1, c_late1, rfl, hr_late1, hl_late1, hb⟩; have HX := Aside0.mk ((q1 _).trans (hb.mono (q1 (.cells #[.int .i64 1, .int .i64 0, .int .i64 1, .int .i64 0, .int .i64 1] 3)).size)); clear hb))
  have HR_late1 := Aside0.mk hr_late1
  clear hr_late1
  replace HM := Aside0.mk (blk_below HM.out HX.out)
  replace HC := Aside0.mk (Kd.C_below HC.out HX.out)
  replace HB := Aside0.mk (below_step HB.out HX.out)
  replace HR_heats1 := Aside0.mk (Kd.C_below HR_heats1.out HX.out)
  replace HR_heats2 := Aside0.mk (Kd.C_below HR_heats2.out HX.out)
  replace HR_best1 := Aside0.mk (Kd.C_below HR_best1.out HX.out)
  replace HR_best2 := Aside0.mk (Kd.C_below HR_best2.out HX.out)
  replace HR_tab1 := Aside0.mk (Kd.C_below HR_tab1.out HX.out)
  clear HX q0 q1 m0 m1 m2 m3 m4 z0
  obtain ⟨m0, m1, m2, m3, m4⟩ := blk5 HM.out
  have z0 := blk_lt HM.out
  go_wp2_with fail
  refine (w_worth1 _ A c HC.out hc).mono ?_
  rintro e W16 ⟨rfl, hb⟩
  replace HM := Aside0.mk (blk_below HM.out hb)
  replace HC := Aside0.mk (Kd.C_below HC.out hb)
  replace HB := Aside0.mk (below_step HB.out hb)
  replace HR_heats1 := Aside0.mk (Kd.C_below HR_heats1.out hb)
  replace HR_heats2 := Aside0.mk (Kd.C_below HR_heats2.out hb)
  replace HR_best1 := Aside0.mk (Kd.C_below HR_best1.out hb)
  replace HR_best2 := Aside0.mk (Kd.C_below HR_best2.out hb)
  replace HR_tab1 := Aside0.mk (Kd.C_below HR_tab1.out hb)
  replace HR_late1 := Aside0.mk (Kd.C_below HR_late1.out hb)
  clear hb m0 m1 m2 m3 m4 z0
  go_wp2_with fail
  with_reducible refine (w_five21 _).mono ?_
  rintro e V18 ⟨A_18, c_18, rfl, hD, hd18, hb⟩
  have HD := Aside0.mk hD
  clear hD
  replace HM := Aside0.mk (blk_below HM.out hb)
  replace HC := Aside0.mk (Kd.C_below HC.out hb)
  replace HB := Aside0.mk (below_step HB.out hb)
  replace HR_heats1 := Aside0.mk (Kd.C_below HR_heats1.out hb)
  replace HR_heats2 := Aside0.mk (Kd.C_below HR_heats2.out hb)
  replace HR_best1 := Aside0.mk (Kd.C_below HR_best1.out hb)
  replace HR_best2 := Aside0.mk (Kd.C_below HR_best2.out hb)
  replace HR_tab1 := Aside0.mk (Kd.C_below HR_tab1.out hb)
  replace HR_late1 := Aside0.mk (Kd.C_below HR_late1.out hb)
  clear hb
  go_wp2_with fail
  refine (w_worth2 _ A_18 c_18 HD.out hd18).mono ?_
  rintro e W17 ⟨rfl, hb⟩
  replace HM := Aside0.mk (blk_below HM.out hb)
  replace HC := Aside0.mk (Kd.C_below HC.out hb)
  replace HB := Aside0.mk (below_step HB.out hb)
  replace HR_heats1 := Aside0.mk (Kd.C_below HR_heats1.out hb)
  replace HR_heats2 := Aside0.mk (Kd.C_below HR_heats2.out hb)
  replace HR_best1 := Aside0.mk (Kd.C_below HR_best1.out hb)
  replace HR_best2 := Aside0.mk (Kd.C_below HR_best2.out hb)
  replace HR_tab1 := Aside0.mk (Kd.C_below HR_tab1.out hb)
  replace HR_late1 := Aside0.mk (Kd.C_below HR_late1.out hb)
  clear hb HD
  go_wp2_with fail
  with_reducible refine (longs42 _ _).mono ?_
  rintro e V ⟨rfl, rfl⟩
  have hb' := hb1 W17 (.cells #[.int .i64 16, .int .i64 12, .int .i64 18, .int .i64 14, .int .i64 20] 2)
  replace HM := Aside0.mk (blk_below HM.out hb')
  replace HC := Aside0.mk (Kd.C_below HC.out hb')
  replace HB := Aside0.mk (below_step HB.out hb')
  replace HR_heats1 := Aside0.mk (Kd.C_below HR_heats1.out hb')
  replace HR_heats2 := Aside0.mk (Kd.C_below HR_heats2.out hb')
  replace HR_best1 := Aside0.mk (Kd.C_below HR_best1.out hb')
  replace HR_best2 := Aside0.mk (Kd.C_below HR_best2.out hb')
  replace HR_tab1 := Aside0.mk (Kd.C_below HR_tab1.out hb')
  replace HR_late1 := Aside0.mk (Kd.C_below HR_late1.out hb')
  clear hb'
  go_wp2_with fail
  refine (w_eq1 _ A_heats1 c_heats1 W17.heap.size _ HR_heats1.out hl_heats1 (by exact new_blk _ _)).mono ?_
  rintro e X0 ⟨rfl, hb⟩
  replace HM := Aside0.mk (blk_below HM.out hb)
  replace HC := Aside0.mk (Kd.C_below HC.out hb)
  replace HB := Aside0.mk (below_step HB.out hb)
  replace HR_heats1 := Aside0.mk (Kd.C_below HR_heats1.out hb)
  replace HR_heats2 := Aside0.mk (Kd.C_below HR_heats2.out hb)
  replace HR_best1 := Aside0.mk (Kd.C_below HR_best1.out hb)
  replace HR_best2 := Aside0.mk (Kd.C_below HR_best2.out hb)
  replace HR_tab1 := Aside0.mk (Kd.C_below HR_tab1.out hb)
  replace HR_late1 := Aside0.mk (Kd.C_below HR_late1.out hb)
  clear hb
  go_wp2_with fail
  with_reducible refine (longs42 _ _).mono ?_
  rintro e V ⟨rfl, rfl⟩
  have hb' := hb1 X0 (.cells #[.int .i64 8, .int .i64 8, .int .i64 15, .int .i64 11, .int .i64 8] 2)
  replace HM := Aside0.mk (blk_below HM.out hb')
  replace HC := Aside0.mk (Kd.C_below HC.out hb')
  replace HB := Aside0.mk (below_step HB.out hb')
  replace HR_heats1 := Aside0.mk (Kd.C_below HR_heats1.out hb')
  replace HR_heats2 := Aside0.mk (Kd.C_below HR_heats2.out hb')
  replace HR_best1 := Aside0.mk (Kd.C_below HR_best1.out hb')
  replace HR_best2 := Aside0.mk (Kd.C_below HR_best2.out hb')
  replace HR_tab1 := Aside0.mk (Kd.C_below HR_tab1.out hb')
  replace HR_late1 := Aside0.mk (Kd.C_below HR_late1.out hb')
  clear hb'
  go_wp2_with fail
  refine (w_eq2 _ A_heats2 c_heats2 X0.heap.size _ HR_heats2.out hl_heats2 (by exact new_blk _ _)).mono ?_
  rintro e X1 ⟨rfl, hb⟩
  replace HM := Aside0.mk (blk_below HM.out hb)
  replace HC := Aside0.mk (Kd.C_below HC.out hb)
  replace HB := Aside0.mk (below_step HB.out hb)
  replace HR_heats1 := Aside0.mk (Kd.C_below HR_heats1.out hb)
  replace HR_heats2 := Aside0.mk (Kd.C_below HR_heats2.out hb)
  replace HR_best1 := Aside0.mk (Kd.C_below HR_best1.out hb)
  replace HR_best2 := Aside0.mk (Kd.C_below HR_best2.out hb)
  replace HR_tab1 := Aside0.mk (Kd.C_below HR_tab1.out hb)
  replace HR_late1 := Aside0.mk (Kd.C_below HR_late1.out hb)
  clear hb
  go_wp2_with fail
  with_reducible refine (of41 _ _).mono ?_
  rintro e V ⟨rfl, rfl⟩
  have hb' := hb1 X1 (.cells #[.int .i64 1, .int .i64 0, .int .i64 1, .int .i64 0, .int .i64 1] 3)
  replace HM := Aside0.mk (blk_below HM.out hb')
  replace HC := Aside0.mk (Kd.C_below HC.out hb')
  replace HB := Aside0.mk (below_step HB.out hb')
  replace HR_heats1 := Aside0.mk (Kd.C_below HR_heats1.out hb')
  replace HR_heats2 := Aside0.mk (Kd.C_below HR_heats2.out hb')
  replace HR_best1 := Aside0.mk (Kd.C_below HR_best1.out hb')
  replace HR_best2 := Aside0.mk (Kd.C_below HR_best2.out hb')
  replace HR_tab1 := Aside0.mk (Kd.C_below HR_tab1.out hb')
  replace HR_late1 := Aside0.mk (Kd.C_below HR_late1.out hb')
  clear hb'
  go_wp2_with fail
  refine (w_eq3 _ A_best1 c_best1 X1.heap.size _ HR_best1.out hl_best1 (by exact new_blk _ _)).mono ?_
  rintro e X2 ⟨rfl, hb⟩
  replace HM := Aside0.mk (blk_below HM.out hb)
  replace HC := Aside0.mk (Kd.C_below HC.out hb)
  replace HB := Aside0.mk (below_step HB.out hb)
  replace HR_heats1 := Aside0.mk (Kd.C_below HR_heats1.out hb)
  replace HR_heats2 := Aside0.mk (Kd.C_below HR_heats2.out hb)
  replace HR_best1 := Aside0.mk (Kd.C_below HR_best1.out hb)
  replace HR_best2 := Aside0.mk (Kd.C_below HR_best2.out hb)
  replace HR_tab1 := Aside0.mk (Kd.C_below HR_tab1.out hb)
  replace HR_late1 := Aside0.mk (Kd.C_below HR_late1.out hb)
  clear hb
  go_wp2_with fail
  with_reducible refine (longs42 _ _).mono ?_
  rintro e V ⟨rfl, rfl⟩
  have hb' := hb1 X2 (.cells #[.int .i64 10, .int .i64 16, .int .i64 12, .int .i64 18, .int .i64 14] 2)
  replace HM := Aside0.mk (blk_below HM.out hb')
  replace HC := Aside0.mk (Kd.C_below HC.out hb')
  replace HB := Aside0.mk (below_step HB.out hb')
  replace HR_heats1 := Aside0.mk (Kd.C_below HR_heats1.out hb')
  replace HR_heats2 := Aside0.mk (Kd.C_below HR_heats2.out hb')
  replace HR_best1 := Aside0.mk (Kd.C_below HR_best1.out hb')
  replace HR_best2 := Aside0.mk (Kd.C_below HR_best2.out hb')
  replace HR_tab1 := Aside0.mk (Kd.C_below HR_tab1.out hb')
  replace HR_late1 := Aside0.mk (Kd.C_below HR_late1.out hb')
  clear hb'
  go_wp2_with fail
  refine (w_eq4 _ A_late1 c_late1 X2.heap.size _ HR_late1.out hl_late1 (by exact new_blk _ _)).mono ?_
  rintro e X3 ⟨rfl, hb⟩
  replace HM := Aside0.mk (blk_below HM.out hb)
  replace HC := Aside0.mk (Kd.C_below HC.out hb)
  replace HB := Aside0.mk (below_step HB.out hb)
  replace HR_heats1 := Aside0.mk (Kd.C_below HR_heats1.out hb)
  replace HR_heats2 := Aside0.mk (Kd.C_below HR_heats2.out hb)
  replace HR_best1 := Aside0.mk (Kd.C_below HR_best1.out hb)
  replace HR_best2 := Aside0.mk (Kd.C_below HR_best2.out hb)
  replace HR_tab1 := Aside0.mk (Kd.C_below HR_tab1.out hb)
  replace HR_late1 := Aside0.mk (Kd.C_below HR_late1.out hb)
  clear hb
  obtain ⟨m0, m1, m2, m3, m4⟩ := blk5 HM.out
  have z0 := blk_lt HM.out
  go_wp2_with fail
  refine (w_ref1 _ A c HC.out hc A_tab1 c_tab1 HR_tab1.out hl_tab1).mono ?_
  rintro e Y ⟨rfl, hb⟩
  replace HB := Aside0.mk (below_step HB.out hb)
  clear hb
  go_wp2
  go_ret
  exact ⟨rfl, HB.out⟩
end Go.Proofs.Ytpoopogojocolaa.P
