/- The walk of the law StoneMills: whatever is handed in, it returns true, and what lay before lies as it did. -/
import Derived.Deep.RegionHeld3
import Derived.Test.YtpoopogojocolaaZM36
import Derived.Test.YtpoopogojocolaaZM10
import Derived.Test.YtpoopogojocolaaZM12
import Derived.Test.YtpoopogojocolaaZM13
import Derived.Test.YtpoopogojocolaaZM42
namespace Go.Proofs.Ytpoopogojocolaa.P
open Go.RowKit Go.Shelf Go.Proofs.YtpoopogojocolaaW.PrintWords Go.Proofs.YtpoopogojocolaaW.PrintLast Go.Proofs.YtpoopogojocolaaW.PrintMore
attribute [local go_sem] max2_mx min2_mn max_two min_two
set_option linter.unusedVariables false
set_option linter.unusedSimpArgs false
set_option maxHeartbeats 40000000 in
set_option maxRecDepth 1000000 in
theorem law_StoneMills (s li ga fa : Int) (A : Option Addr) (c : Nat) (l : List S73) (PA : Option Addr) (pc : Nat) (p : List Int) (warm : Bool) (w : World) (hr : Kd.C k73 w A l.length l) (hc : l.length ≤ c) (hp : Kd.C (Kd.int .i64) w PA p.length p) (hpc : p.length ≤ pc) :
    Calls Try.prog 3 #[.agg #[.int .i64 s, .int .i64 li, .int .i64 ga, .int .i64 fa, .slice A l.length c], .slice PA p.length pc, .bool warm] w fun e w' => e = .returned (.bool true) ∧ Below w.heap.size w w' := by
  have HB := Aside0.mk (hb1 w (.cells #[.int .i64 s, .int .i64 li, .int .i64 ga, .int .i64 fa, .slice A l.length c] 24))
  have HM := Aside0.mk (new_blk w (.cells #[.int .i64 s, .int .i64 li, .int .i64 ga, .int .i64 fa, .slice A l.length c] 24))
  have HR := Aside0.mk (Kd.C_below hr HB.out)
  have HP := Aside0.mk (Kd.C_below hp HB.out)
  obtain ⟨W, hW⟩ : ∃ W, w.alloc (.cells #[.int .i64 s, .int .i64 li, .int .i64 ga, .int .i64 fa, .slice A l.length c] 24) = W := ⟨_, rfl⟩
  rw [hW] at HB HM HR HP
  clear hr hp
  go_enter Try.func3, Try.ntmps3
  go_upto_region 1 with fail
  try rw [hW]
  clear hW
  by_cases hg : (l.length : Int) > 16
  · have hd : decide ((l.length : Int) > 16) = true := decide_eq_true hg
    obtain ⟨HM_0, HM_1, HM_2, HM_3, HM_4⟩ := blk5 HM.out
    have z_HM := blk_lt HM.out
    go_wp2_with fail
    refine (senvylaw02_great.calls s li ga fa A c l _ _ HR.out hc rfl).mono ?_
    rintro e W0 ⟨rfl, hb⟩
    replace HM := Aside0.mk (blk_below HM.out hb)
    replace HR := Aside0.mk (Kd.C_below HR.out hb)
    replace HP := Aside0.mk (Kd.C_below HP.out hb)
    replace HB := Aside0.mk (below_step HB.out hb)
    clear hb
    clear HM_0 HM_1 HM_2 HM_3 HM_4 z_HM
    rw [hd]
    obtain ⟨HM_0, HM_1, HM_2, HM_3, HM_4⟩ := blk5 HM.out
    have z_HM := blk_lt HM.out
    go_wp2_with fail
    refine (works9 _).mono ?_
    rintro e W1 ⟨rfl, hb⟩
    replace HM := Aside0.mk (blk_below HM.out hb)
    replace HR := Aside0.mk (Kd.C_below HR.out hb)
    replace HP := Aside0.mk (Kd.C_below HP.out hb)
    replace HB := Aside0.mk (below_step HB.out hb)
    clear hb
    clear HM_0 HM_1 HM_2 HM_3 HM_4 z_HM
    go_wp2
    go_ret
    exact ⟨rfl, HB.out⟩
  · have hd : decide ((l.length : Int) > 16) = false := decide_eq_false hg
    obtain ⟨HM_0, HM_1, HM_2, HM_3, HM_4⟩ := blk5 HM.out
    have z_HM := blk_lt HM.out
    go_wp2_with fail
    refine (senvylaw02_great.calls s li ga fa A c l _ _ HR.out hc rfl).mono ?_
    rintro e W2 ⟨rfl, hb⟩
    replace HM := Aside0.mk (blk_below HM.out hb)
    replace HR := Aside0.mk (Kd.C_below HR.out hb)
    replace HP := Aside0.mk (Kd.C_below HP.out hb)
    replace HB := Aside0.mk (below_step HB.out hb)
    clear hb
    clear HM_0 HM_1 HM_2 HM_3 HM_4 z_HM
    rw [hd]
    by_cases hlo : (p.length : Int) > 20
    · have hd2 : decide ((p.length : Int) > 20) = true := decide_eq_true hlo
      obtain ⟨HM_0, HM_1, HM_2, HM_3, HM_4⟩ := blk5 HM.out
      have z_HM := blk_lt HM.out
      go_wp2_with fail
      refine (senvylaw02_long.calls PA pc p _ _ HP.out hpc rfl).mono ?_
      rintro e W3 ⟨rfl, hb0⟩
      have hb := below_drawn0 hb0
      clear hb0
      replace HM := Aside0.mk (blk_below HM.out hb)
      replace HR := Aside0.mk (Kd.C_below HR.out hb)
      replace HP := Aside0.mk (Kd.C_below HP.out hb)
      replace HB := Aside0.mk (below_step HB.out hb)
      clear hb
      clear HM_0 HM_1 HM_2 HM_3 HM_4 z_HM
      rw [hd2]
      obtain ⟨HM_0, HM_1, HM_2, HM_3, HM_4⟩ := blk5 HM.out
      have z_HM := blk_lt HM.out
      go_wp2_with fail
      refine (works9 _).mono ?_
      rintro e W4 ⟨rfl, hb⟩
      replace HM := Aside0.mk (blk_below HM.out hb)
      replace HR := Aside0.mk (Kd.C_below HR.out hb)
      replace HP := Aside0.mk (Kd.C_below HP.out hb)
      replace HB := Aside0.mk (below_step HB.out hb)
      clear hb
      clear HM_0 HM_1 HM_2 HM_3 HM_4 z_HM
      go_wp2
      go_ret
      exact ⟨rfl, HB.out⟩
    · have hd2 : decide ((p.length : Int) > 20) = false := decide_eq_false hlo
      obtain ⟨HM_0, HM_1, HM_2, HM_3, HM_4⟩ := blk5 HM.out
      have z_HM := blk_lt HM.out
      go_wp2_with fail
      refine (senvylaw02_long.calls PA pc p _ _ HP.out hpc rfl).mono ?_
      rintro e W5 ⟨rfl, hb0⟩
      have hb := below_drawn0 hb0
      clear hb0
      replace HM := Aside0.mk (blk_below HM.out hb)
      replace HR := Aside0.mk (Kd.C_below HR.out hb)
      replace HP := Aside0.mk (Kd.C_below HP.out hb)
      replace HB := Aside0.mk (below_step HB.out hb)
      clear hb
      clear HM_0 HM_1 HM_2 HM_3 HM_4 z_HM
      rw [hd2]
      have hl : l.length ≤ 1000 := by omega
      have hpl : p.length ≤ 1000 := by omega
      obtain ⟨⟨x1, x2⟩, e12, e13⟩ := heats_ev s li ga fa l p warm hl hpl
      obtain ⟨k13, e13⟩ := e13.rounds
      obtain ⟨⟨y1, y2⟩, e14, e15⟩ := plan_ev s li ga fa l p hl hpl
      obtain ⟨k15, e15⟩ := e15.rounds
      obtain ⟨⟨u1, u2⟩, e16, e17⟩ := safe_ev s li ga fa l p hl hpl
      obtain ⟨k17, e17⟩ := e17.rounds
      obtain ⟨k19, e19⟩ := (cm_ev s li ga fa l hl).rounds
      have hxl : x1.length ≤ 1000 := heats_len e12 hpl
      obtain ⟨k20, e20⟩ := longs_same x1 hxl
      obtain ⟨k21, e21⟩ := mill_same s li ga fa l hl
      obtain ⟨k22, e22⟩ := alike_same p hpl
      have E12 := Aside0.mk e12
      have E13 := Aside0.mk e13
      have E14 := Aside0.mk e14
      have E15 := Aside0.mk e15
      have E16 := Aside0.mk e16
      have E17 := Aside0.mk e17
      have E19 := Aside0.mk e19
      have E20 := Aside0.mk e20
      have E21 := Aside0.mk e21
      have E22 := Aside0.mk e22
      clear e12 e13 e14 e15 e16 e17 e19 e20 e21 e22 hd hd2
      obtain ⟨HM_0, HM_1, HM_2, HM_3, HM_4⟩ := blk5 HM.out
      have z_HM := blk_lt HM.out
      go_wp2_with fail
      refine (senvylaw02_twinMill.calls s li ga fa A c l s li ga fa l _ HR.out hc (by unfold senvylaw02_twinMill.f; rw [if_pos hl])).mono ?_
      rintro e V0 ⟨v, rfl, hv, hb⟩
      obtain ⟨OA, oc, rfl, hoc, hOC⟩ := Kd.R_reads hv
      have HO := Aside0.mk hOC
      clear hv hOC
      replace HM := Aside0.mk (blk_below HM.out hb)
      replace HR := Aside0.mk (Kd.C_below HR.out hb)
      replace HP := Aside0.mk (Kd.C_below HP.out hb)
      replace HB := Aside0.mk (below_step HB.out hb)
      clear hb
      clear HM_0 HM_1 HM_2 HM_3 HM_4 z_HM
      obtain ⟨V1, hV1⟩ : ∃ V1, V0.alloc (.cells #[.int .i64 s, .int .i64 li, .int .i64 ga, .int .i64 fa, .slice OA l.length oc] 24) = V1 := ⟨_, rfl⟩
      have hb : Below V0.heap.size V0 V1 := by rw [← hV1]; exact hb1 _ _
      have HN := Aside0.mk (show V1.heap[V0.heap.size]? = some (.cells #[.int .i64 s, .int .i64 li, .int .i64 ga, .int .i64 fa, .slice OA l.length oc] 24 (0, 0)) from by rw [← hV1]; exact new_blk _ _)
      go_upto_region 4 with fail
      try rw [hV1]
      replace HM := Aside0.mk (blk_below HM.out hb)
      replace HR := Aside0.mk (Kd.C_below HR.out hb)
      replace HP := Aside0.mk (Kd.C_below HP.out hb)
      replace HB := Aside0.mk (below_step HB.out hb)
      replace HO := Aside0.mk (Kd.C_below HO.out hb)
      clear hb hV1
      obtain ⟨HM_0, HM_1, HM_2, HM_3, HM_4⟩ := blk5 HM.out
      have z_HM := blk_lt HM.out
      obtain ⟨HN_0, HN_1, HN_2, HN_3, HN_4⟩ := blk5 HN.out
      have z_HN := blk_lt HN.out
      go_wp2_with fail
      refine (senvylaw02_twinInts.calls PA pc p p _ HP.out hpc (by unfold senvylaw02_twinInts.f; rw [if_pos hpl])).mono ?_
      rintro e W6 ⟨v, rfl, hv, hb⟩
      obtain ⟨QA, qc, rfl, hqc, hQC⟩ := Kd.R_reads hv
      clear hv
      have HQ := Aside0.mk (hQC)
      replace HM := Aside0.mk (blk_below HM.out hb)
      replace HR := Aside0.mk (Kd.C_below HR.out hb)
      replace HP := Aside0.mk (Kd.C_below HP.out hb)
      replace HB := Aside0.mk (below_step HB.out hb)
      replace HO := Aside0.mk (Kd.C_below HO.out hb)
      replace HN := Aside0.mk (blk_below HN.out hb)
      clear hb
      clear HM_0 HM_1 HM_2 HM_3 HM_4 z_HM HN_0 HN_1 HN_2 HN_3 HN_4 z_HN
      clear hQC
      obtain ⟨HM_0, HM_1, HM_2, HM_3, HM_4⟩ := blk5 HM.out
      have z_HM := blk_lt HM.out
      obtain ⟨HN_0, HN_1, HN_2, HN_3, HN_4⟩ := blk5 HN.out
      have z_HN := blk_lt HN.out
      go_wp2_with fail
      refine (stone_Heats.calls s li ga fa OA oc l QA qc p warm x1 x2 _ HO.out hoc HQ.out hqc E12.out).mono ?_
      rintro e W7 ⟨v, rfl, hv, hb⟩
      obtain ⟨XA, xc, rfl, hxc, hXC⟩ := Kd.R_reads hv
      clear hv
      have HX1 := Aside0.mk (hXC)
      replace HM := Aside0.mk (blk_below HM.out hb)
      replace HR := Aside0.mk (Kd.C_below HR.out hb)
      replace HP := Aside0.mk (Kd.C_below HP.out hb)
      replace HB := Aside0.mk (below_step HB.out hb)
      replace HO := Aside0.mk (Kd.C_below HO.out hb)
      replace HN := Aside0.mk (blk_below HN.out hb)
      replace HQ := Aside0.mk (Kd.C_below HQ.out hb)
      clear hb
      clear HM_0 HM_1 HM_2 HM_3 HM_4 z_HM HN_0 HN_1 HN_2 HN_3 HN_4 z_HN
      clear hXC
      obtain ⟨HM_0, HM_1, HM_2, HM_3, HM_4⟩ := blk5 HM.out
      have z_HM := blk_lt HM.out
      obtain ⟨HN_0, HN_1, HN_2, HN_3, HN_4⟩ := blk5 HN.out
      have z_HN := blk_lt HN.out
      go_wp2_with fail
      refine (senvyref02_Heats.calls k13 s li ga fa A c l PA pc p warm x1 x2 _ HR.out hc HP.out hpc E13.out).mono ?_
      rintro e W8 ⟨v, rfl, hv, hb⟩
      obtain ⟨YA, yc, rfl, hyc, hYC⟩ := Kd.R_reads hv
      clear hv
      have HY1 := Aside0.mk (hYC)
      replace HM := Aside0.mk (blk_below HM.out hb)
      replace HR := Aside0.mk (Kd.C_below HR.out hb)
      replace HP := Aside0.mk (Kd.C_below HP.out hb)
      replace HB := Aside0.mk (below_step HB.out hb)
      replace HO := Aside0.mk (Kd.C_below HO.out hb)
      replace HN := Aside0.mk (blk_below HN.out hb)
      replace HQ := Aside0.mk (Kd.C_below HQ.out hb)
      replace HX1 := Aside0.mk (Kd.C_below HX1.out hb)
      clear hb
      clear HM_0 HM_1 HM_2 HM_3 HM_4 z_HM HN_0 HN_1 HN_2 HN_3 HN_4 z_HN
      clear hYC
      obtain ⟨HM_0, HM_1, HM_2, HM_3, HM_4⟩ := blk5 HM.out
      have z_HM := blk_lt HM.out
      obtain ⟨HN_0, HN_1, HN_2, HN_3, HN_4⟩ := blk5 HN.out
      have z_HN := blk_lt HN.out
      go_wp2_with fail
      refine (stone_CheckPlan.calls s li ga fa OA oc l QA qc p y1 y2 _ HO.out hoc HQ.out hqc E14.out).mono ?_
      rintro e W9 ⟨rfl, hb⟩
      replace HM := Aside0.mk (blk_below HM.out hb)
      replace HR := Aside0.mk (Kd.C_below HR.out hb)
      replace HP := Aside0.mk (Kd.C_below HP.out hb)
      replace HB := Aside0.mk (below_step HB.out hb)
      replace HO := Aside0.mk (Kd.C_below HO.out hb)
      replace HN := Aside0.mk (blk_below HN.out hb)
      replace HQ := Aside0.mk (Kd.C_below HQ.out hb)
      replace HX1 := Aside0.mk (Kd.C_below HX1.out hb)
      replace HY1 := Aside0.mk (Kd.C_below HY1.out hb)
      clear hb
      clear HM_0 HM_1 HM_2 HM_3 HM_4 z_HM HN_0 HN_1 HN_2 HN_3 HN_4 z_HN
      obtain ⟨HM_0, HM_1, HM_2, HM_3, HM_4⟩ := blk5 HM.out
      have z_HM := blk_lt HM.out
      obtain ⟨HN_0, HN_1, HN_2, HN_3, HN_4⟩ := blk5 HN.out
      have z_HN := blk_lt HN.out
      go_wp2_with fail
      refine (senvyref02_CheckPlan.calls k15 s li ga fa A c l PA pc p y1 y2 _ HR.out hc HP.out hpc E15.out).mono ?_
      rintro e W10 ⟨rfl, hb⟩
      replace HM := Aside0.mk (blk_below HM.out hb)
      replace HR := Aside0.mk (Kd.C_below HR.out hb)
      replace HP := Aside0.mk (Kd.C_below HP.out hb)
      replace HB := Aside0.mk (below_step HB.out hb)
      replace HO := Aside0.mk (Kd.C_below HO.out hb)
      replace HN := Aside0.mk (blk_below HN.out hb)
      replace HQ := Aside0.mk (Kd.C_below HQ.out hb)
      replace HX1 := Aside0.mk (Kd.C_below HX1.out hb)
      replace HY1 := Aside0.mk (Kd.C_below HY1.out hb)
      clear hb
      clear HM_0 HM_1 HM_2 HM_3 HM_4 z_HM HN_0 HN_1 HN_2 HN_3 HN_4 z_HN
      obtain ⟨HM_0, HM_1, HM_2, HM_3, HM_4⟩ := blk5 HM.out
      have z_HM := blk_lt HM.out
      obtain ⟨HN_0, HN_1, HN_2, HN_3, HN_4⟩ := blk5 HN.out
      have z_HN := blk_lt HN.out
      go_wp2_with fail
      refine (stone_Safe.calls s li ga fa OA oc l QA qc p u1 u2 _ HO.out hoc HQ.out hqc E16.out).mono ?_
      rintro e W11 ⟨rfl, hb⟩
      replace HM := Aside0.mk (blk_below HM.out hb)
      replace HR := Aside0.mk (Kd.C_below HR.out hb)
      replace HP := Aside0.mk (Kd.C_below HP.out hb)
      replace HB := Aside0.mk (below_step HB.out hb)
      replace HO := Aside0.mk (Kd.C_below HO.out hb)
      replace HN := Aside0.mk (blk_below HN.out hb)
      replace HQ := Aside0.mk (Kd.C_below HQ.out hb)
      replace HX1 := Aside0.mk (Kd.C_below HX1.out hb)
      replace HY1 := Aside0.mk (Kd.C_below HY1.out hb)
      clear hb
      clear HM_0 HM_1 HM_2 HM_3 HM_4 z_HM HN_0 HN_1 HN_2 HN_3 HN_4 z_HN
      obtain ⟨HM_0, HM_1, HM_2, HM_3, HM_4⟩ := blk5 HM.out
      have z_HM := blk_lt HM.out
      obtain ⟨HN_0, HN_1, HN_2, HN_3, HN_4⟩ := blk5 HN.out
      have z_HN := blk_lt HN.out
      go_wp2_with fail
      refine (senvyref02_Safe.calls k17 s li ga fa A c l PA pc p u1 u2 _ HR.out hc HP.out hpc E17.out).mono ?_
      rintro e W12 ⟨rfl, hb⟩
      replace HM := Aside0.mk (blk_below HM.out hb)
      replace HR := Aside0.mk (Kd.C_below HR.out hb)
      replace HP := Aside0.mk (Kd.C_below HP.out hb)
      replace HB := Aside0.mk (below_step HB.out hb)
      replace HO := Aside0.mk (Kd.C_below HO.out hb)
      replace HN := Aside0.mk (blk_below HN.out hb)
      replace HQ := Aside0.mk (Kd.C_below HQ.out hb)
      replace HX1 := Aside0.mk (Kd.C_below HX1.out hb)
      replace HY1 := Aside0.mk (Kd.C_below HY1.out hb)
      clear hb
      clear HM_0 HM_1 HM_2 HM_3 HM_4 z_HM HN_0 HN_1 HN_2 HN_3 HN_4 z_HN
      go_upto_region 11 with fail
      obtain ⟨HM_0, HM_1, HM_2, HM_3, HM_4⟩ := blk5 HM.out
      have z_HM := blk_lt HM.out
      obtain ⟨HN_0, HN_1, HN_2, HN_3, HN_4⟩ := blk5 HN.out
      have z_HN := blk_lt HN.out
      have HX := Aside0.mk (show Below W12.heap.size W12 W12.drew from below_drew1 (Below.refl _ _))
      go_region_held3 (fun X => X.cell? ⟨w.heap.size, 0, none⟩ = some (.int .i64 s) ∧ X.cell? ⟨w.heap.size, 1, none⟩ = some (.int .i64 li) ∧ X.cell? ⟨w.heap.size, 2, none⟩ = some (.int .i64 ga) ∧ X.cell? ⟨w.heap.size, 3, none⟩ = some (.int .i64 fa) ∧ X.cell? ⟨w.heap.size, 4, none⟩ = some (.slice A l.length c) ∧ X.cell? ⟨V0.heap.size, 0, none⟩ = some (.int .i64 s) ∧ X.cell? ⟨V0.heap.size, 1, none⟩ = some (.int .i64 li) ∧ X.cell? ⟨V0.heap.size, 2, none⟩ = some (.int .i64 ga) ∧ X.cell? ⟨V0.heap.size, 3, none⟩ = some (.int .i64 fa) ∧ X.cell? ⟨V0.heap.size, 4, none⟩ = some (.slice OA l.length oc) ∧ Aside0 (Below W12.heap.size W12 X))
        (exact ⟨pw_cell_below HX.out HM_0, pw_cell_below HX.out HM_1, pw_cell_below HX.out HM_2, pw_cell_below HX.out HM_3, pw_cell_below HX.out HM_4, pw_cell_below HX.out HN_0, pw_cell_below HX.out HN_1, pw_cell_below HX.out HN_2, pw_cell_below HX.out HN_3, pw_cell_below HX.out HN_4, HX⟩)
        (first | (go_at_call 18; refine (stone_CheckMill.calls s li ga fa OA oc l _ _ (Kd.C_below HO.out HX.out) hoc rfl).mono ?_; rintro e V ⟨rfl, hb⟩; replace HX := Aside0.mk (below_step HX.out hb); clear hb) | (go_at_call 19; refine (senvyref02_CheckMill.calls k19 s li ga fa A c l _ _ (Kd.C_below HR.out HX.out) hc E19.out).mono ?_; rintro e V ⟨rfl, hb⟩; replace HX := Aside0.mk (below_step HX.out hb); clear hb) | (go_at_call 20; refine (senvylaw02_Longs.calls k20 XA xc x1 YA yc x1 true _ (Kd.C_below HX1.out HX.out) hxc (Kd.C_below HY1.out HX.out) hyc E20.out).mono ?_; rintro e V ⟨rfl, hb0⟩; have hb := below_drawn0 hb0; clear hb0; replace HX := Aside0.mk (below_step HX.out hb); clear hb) | (go_at_call 21; refine (senvylaw02_alikeMill.calls k21 s li ga fa OA oc l s li ga fa A c l true _ (Kd.C_below HO.out HX.out) hoc (Kd.C_below HR.out HX.out) hc E21.out).mono ?_; rintro e V ⟨rfl, hb⟩; replace HX := Aside0.mk (below_step HX.out hb); clear hb) | (go_at_call 22; refine (senvylaw02_alikeInts.calls k22 QA qc p PA pc p true _ (Kd.C_below HQ.out HX.out) hqc (Kd.C_below HP.out HX.out) hpc E22.out).mono ?_; rintro e V ⟨rfl, hb0⟩; have hb := below_drawn0 hb0; clear hb0; replace HX := Aside0.mk (below_step HX.out hb); clear hb) | (go_at_call 9; refine (works9 _).mono ?_; rintro e V ⟨rfl, hb⟩; replace HX := Aside0.mk (below_step HX.out hb); clear hb))
      all_goals
        go_wp2
        go_ret
        exact ⟨rfl, below_step HB.out HX.out⟩
end Go.Proofs.Ytpoopogojocolaa.P
