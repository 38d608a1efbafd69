/- The walk of the law StonePlans: whatever is handed in, it returns true, and what lay before lies as it did. -/
import Derived.Deep.RegionHeld3
import Derived.Test.YtpoopogojocolaaZP39
import Derived.Test.YtpoopogojocolaaZP08
import Derived.Test.YtpoopogojocolaaZP11
import Derived.Test.YtpoopogojocolaaZP44
namespace Go.Proofs.Ytpoopogojocolaa.P
open Go.RowKit Go.Shelf Go.Proofs.YtpoopogojocolaaW.PrintWords Go.Proofs.YtpoopogojocolaaW.PrintLast Go.Proofs.YtpoopogojocolaaW.PrintMore
attribute [local go_sem] max2_mx min2_mn max_two min_two
set_option linter.unusedVariables false
set_option linter.unusedSimpArgs false
set_option maxHeartbeats 40000000 in
set_option maxRecDepth 1000000 in
theorem law_StonePlans (s li ga fa : Int) (A : Option Addr) (c : Nat) (l : List S73) (w : World) (hr : Kd.C k73 w A l.length l) (hc : l.length ≤ c) :
    Calls Try.prog 4 #[.agg #[.int .i64 s, .int .i64 li, .int .i64 ga, .int .i64 fa, .slice A l.length c]] w fun e w' => e = .returned (.bool true) ∧ Below w.heap.size w w' := by
  have HB := Aside0.mk (hb1 w (.cells #[.int .i64 s, .int .i64 li, .int .i64 ga, .int .i64 fa, .slice A l.length c] 24))
  have HM := Aside0.mk (new_blk w (.cells #[.int .i64 s, .int .i64 li, .int .i64 ga, .int .i64 fa, .slice A l.length c] 24))
  have HR := Aside0.mk (Kd.C_below hr HB.out)
  obtain ⟨W, hW⟩ : ∃ W, w.alloc (.cells #[.int .i64 s, .int .i64 li, .int .i64 ga, .int .i64 fa, .slice A l.length c] 24) = W := ⟨_, rfl⟩
  rw [hW] at HB HM HR
  clear hr
  go_enter Try.func4, Try.ntmps4
  go_upto_region 1 with fail
  try rw [hW]
  clear hW
  by_cases hg : (l.length : Int) > 16
  · have hgd : decide ((l.length : Int) > 16) = true := decide_eq_true hg
    obtain ⟨HM_0, HM_1, HM_2, HM_3, HM_4⟩ := blk5 HM.out
    have z_HM := blk_lt HM.out
    go_wp2_with fail
    refine (senvylaw02_great.calls s li ga fa A c l _ _ HR.out hc rfl).mono ?_
    rintro e W0 ⟨rfl, hb⟩
    replace HM := Aside0.mk (blk_below HM.out hb)
    replace HR := Aside0.mk (Kd.C_below HR.out hb)
    replace HB := Aside0.mk (below_step HB.out hb)
    clear hb
    clear HM_0 HM_1 HM_2 HM_3 HM_4 z_HM
    rw [hgd]
    obtain ⟨HM_0, HM_1, HM_2, HM_3, HM_4⟩ := blk5 HM.out
    have z_HM := blk_lt HM.out
    go_wp2_with fail
    refine (works9 _).mono ?_
    rintro e W1 ⟨rfl, hb⟩
    replace HM := Aside0.mk (blk_below HM.out hb)
    replace HR := Aside0.mk (Kd.C_below HR.out hb)
    replace HB := Aside0.mk (below_step HB.out hb)
    clear hb
    clear HM_0 HM_1 HM_2 HM_3 HM_4 z_HM
    go_wp2
    go_ret
    exact ⟨rfl, HB.out⟩
  · have hgd : decide ((l.length : Int) > 16) = false := decide_eq_false hg
    obtain ⟨HM_0, HM_1, HM_2, HM_3, HM_4⟩ := blk5 HM.out
    have z_HM := blk_lt HM.out
    go_wp2_with fail
    refine (senvylaw02_great.calls s li ga fa A c l _ _ HR.out hc rfl).mono ?_
    rintro e W2 ⟨rfl, hb⟩
    replace HM := Aside0.mk (blk_below HM.out hb)
    replace HR := Aside0.mk (Kd.C_below HR.out hb)
    replace HB := Aside0.mk (below_step HB.out hb)
    clear hb
    clear HM_0 HM_1 HM_2 HM_3 HM_4 z_HM
    rw [hgd]
    clear hgd
    have hl : l.length ≤ 1000 := by omega
    obtain ⟨⟨x1, x2⟩, e23, e24⟩ := most_ev s li ga fa l hl
    obtain ⟨k24, e24⟩ := e24.rounds
    obtain ⟨⟨y1, y2⟩, e25, hyl, e26⟩ := best_ev s li ga fa l hl
    obtain ⟨k26, e26⟩ := e26.rounds
    obtain ⟨⟨u1, u2⟩, e27, e28⟩ := worth_ev s li ga fa l hl
    obtain ⟨k28, e28⟩ := e28.rounds
    obtain ⟨k29, e29⟩ := ints_same y1 hyl
    obtain ⟨k21, e21⟩ := mill_same s li ga fa l hl
    have E23 := Aside0.mk e23
    clear e23
    have E24 := Aside0.mk e24
    clear e24
    have E25 := Aside0.mk e25
    clear e25
    have E26 := Aside0.mk e26
    clear e26
    have E27 := Aside0.mk e27
    clear e27
    have E28 := Aside0.mk e28
    clear e28
    have E29 := Aside0.mk e29
    clear e29
    have E21 := Aside0.mk e21
    clear e21
    obtain ⟨HM_0, HM_1, HM_2, HM_3, HM_4⟩ := blk5 HM.out
    have z_HM := blk_lt HM.out
    go_wp2_with fail
    refine (senvylaw02_twinMill.calls s li ga fa A c l s li ga fa l _ HR.out hc (by unfold senvylaw02_twinMill.f; rw [if_pos hl])).mono ?_
    rintro e V0 ⟨v, rfl, hv, hb⟩
    obtain ⟨OA, oc, rfl, hoc, hOC⟩ := Kd.R_reads hv
    have HO := Aside0.mk hOC
    clear hv hOC
    replace HM := Aside0.mk (blk_below HM.out hb)
    replace HR := Aside0.mk (Kd.C_below HR.out hb)
    replace HB := Aside0.mk (below_step HB.out hb)
    clear hb
    clear HM_0 HM_1 HM_2 HM_3 HM_4 z_HM
    obtain ⟨V1, hV1⟩ : ∃ V1, V0.alloc (.cells #[.int .i64 s, .int .i64 li, .int .i64 ga, .int .i64 fa, .slice OA l.length oc] 24) = V1 := ⟨_, rfl⟩
    have hb : Below V0.heap.size V0 V1 := by rw [← hV1]; exact hb1 _ _
    have HN := Aside0.mk (show V1.heap[V0.heap.size]? = some (.cells #[.int .i64 s, .int .i64 li, .int .i64 ga, .int .i64 fa, .slice OA l.length oc] 24 (0, 0)) from by rw [← hV1]; exact new_blk _ _)
    go_upto_region 4 with fail
    try rw [hV1]
    replace HM := Aside0.mk (blk_below HM.out hb)
    replace HR := Aside0.mk (Kd.C_below HR.out hb)
    replace HB := Aside0.mk (below_step HB.out hb)
    replace HO := Aside0.mk (Kd.C_below HO.out hb)
    clear hb hV1
    obtain ⟨HM_0, HM_1, HM_2, HM_3, HM_4⟩ := blk5 HM.out
    have z_HM := blk_lt HM.out
    obtain ⟨HN_0, HN_1, HN_2, HN_3, HN_4⟩ := blk5 HN.out
    have z_HN := blk_lt HN.out
    go_wp2_with fail
    refine (stone_Most.calls s li ga fa OA oc l x1 x2 _ HO.out hoc E23.out).mono ?_
    rintro e W3 ⟨rfl, hb⟩
    replace HM := Aside0.mk (blk_below HM.out hb)
    replace HR := Aside0.mk (Kd.C_below HR.out hb)
    replace HB := Aside0.mk (below_step HB.out hb)
    replace HO := Aside0.mk (Kd.C_below HO.out hb)
    replace HN := Aside0.mk (blk_below HN.out hb)
    clear hb
    clear HM_0 HM_1 HM_2 HM_3 HM_4 z_HM HN_0 HN_1 HN_2 HN_3 HN_4 z_HN
    obtain ⟨HM_0, HM_1, HM_2, HM_3, HM_4⟩ := blk5 HM.out
    have z_HM := blk_lt HM.out
    obtain ⟨HN_0, HN_1, HN_2, HN_3, HN_4⟩ := blk5 HN.out
    have z_HN := blk_lt HN.out
    go_wp2_with fail
    refine (senvyref02_Most.calls k24 s li ga fa A c l x1 x2 _ HR.out hc E24.out).mono ?_
    rintro e W4 ⟨rfl, hb⟩
    replace HM := Aside0.mk (blk_below HM.out hb)
    replace HR := Aside0.mk (Kd.C_below HR.out hb)
    replace HB := Aside0.mk (below_step HB.out hb)
    replace HO := Aside0.mk (Kd.C_below HO.out hb)
    replace HN := Aside0.mk (blk_below HN.out hb)
    clear hb
    clear HM_0 HM_1 HM_2 HM_3 HM_4 z_HM HN_0 HN_1 HN_2 HN_3 HN_4 z_HN
    obtain ⟨HM_0, HM_1, HM_2, HM_3, HM_4⟩ := blk5 HM.out
    have z_HM := blk_lt HM.out
    obtain ⟨HN_0, HN_1, HN_2, HN_3, HN_4⟩ := blk5 HN.out
    have z_HN := blk_lt HN.out
    go_wp2_with fail
    refine (stone_Plan.calls s li ga fa OA oc l y1 y2 _ HO.out hoc E25.out).mono ?_
    rintro e W5 ⟨v, rfl, hv, hb⟩
    obtain ⟨XA, xc, rfl, hxc, hXC⟩ := Kd.R_reads hv
    clear hv
    have HX1 := Aside0.mk (hXC)
    replace HM := Aside0.mk (blk_below HM.out hb)
    replace HR := Aside0.mk (Kd.C_below HR.out hb)
    replace HB := Aside0.mk (below_step HB.out hb)
    replace HO := Aside0.mk (Kd.C_below HO.out hb)
    replace HN := Aside0.mk (blk_below HN.out hb)
    clear hb
    clear HM_0 HM_1 HM_2 HM_3 HM_4 z_HM HN_0 HN_1 HN_2 HN_3 HN_4 z_HN
    clear hXC
    obtain ⟨HM_0, HM_1, HM_2, HM_3, HM_4⟩ := blk5 HM.out
    have z_HM := blk_lt HM.out
    obtain ⟨HN_0, HN_1, HN_2, HN_3, HN_4⟩ := blk5 HN.out
    have z_HN := blk_lt HN.out
    go_wp2_with fail
    refine (senvyref02_Plan.calls k26 s li ga fa A c l y1 y2 _ HR.out hc E26.out).mono ?_
    rintro e W6 ⟨v, rfl, hv, hb⟩
    obtain ⟨YA, yc, rfl, hyc, hYC⟩ := Kd.R_reads hv
    clear hv
    have HY1 := Aside0.mk (hYC)
    replace HM := Aside0.mk (blk_below HM.out hb)
    replace HR := Aside0.mk (Kd.C_below HR.out hb)
    replace HB := Aside0.mk (below_step HB.out hb)
    replace HO := Aside0.mk (Kd.C_below HO.out hb)
    replace HN := Aside0.mk (blk_below HN.out hb)
    replace HX1 := Aside0.mk (Kd.C_below HX1.out hb)
    clear hb
    clear HM_0 HM_1 HM_2 HM_3 HM_4 z_HM HN_0 HN_1 HN_2 HN_3 HN_4 z_HN
    clear hYC
    obtain ⟨HM_0, HM_1, HM_2, HM_3, HM_4⟩ := blk5 HM.out
    have z_HM := blk_lt HM.out
    obtain ⟨HN_0, HN_1, HN_2, HN_3, HN_4⟩ := blk5 HN.out
    have z_HN := blk_lt HN.out
    go_wp2_with fail
    refine (stone_Worth.calls s li ga fa OA oc l u1 u2 _ HO.out hoc E27.out).mono ?_
    rintro e W7 ⟨rfl, hb⟩
    replace HM := Aside0.mk (blk_below HM.out hb)
    replace HR := Aside0.mk (Kd.C_below HR.out hb)
    replace HB := Aside0.mk (below_step HB.out hb)
    replace HO := Aside0.mk (Kd.C_below HO.out hb)
    replace HN := Aside0.mk (blk_below HN.out hb)
    replace HX1 := Aside0.mk (Kd.C_below HX1.out hb)
    replace HY1 := Aside0.mk (Kd.C_below HY1.out hb)
    clear hb
    clear HM_0 HM_1 HM_2 HM_3 HM_4 z_HM HN_0 HN_1 HN_2 HN_3 HN_4 z_HN
    obtain ⟨HM_0, HM_1, HM_2, HM_3, HM_4⟩ := blk5 HM.out
    have z_HM := blk_lt HM.out
    obtain ⟨HN_0, HN_1, HN_2, HN_3, HN_4⟩ := blk5 HN.out
    have z_HN := blk_lt HN.out
    go_wp2_with fail
    refine (senvyref02_Worth.calls k28 s li ga fa A c l u1 u2 _ HR.out hc E28.out).mono ?_
    rintro e W8 ⟨rfl, hb⟩
    replace HM := Aside0.mk (blk_below HM.out hb)
    replace HR := Aside0.mk (Kd.C_below HR.out hb)
    replace HB := Aside0.mk (below_step HB.out hb)
    replace HO := Aside0.mk (Kd.C_below HO.out hb)
    replace HN := Aside0.mk (blk_below HN.out hb)
    replace HX1 := Aside0.mk (Kd.C_below HX1.out hb)
    replace HY1 := Aside0.mk (Kd.C_below HY1.out hb)
    clear hb
    clear HM_0 HM_1 HM_2 HM_3 HM_4 z_HM HN_0 HN_1 HN_2 HN_3 HN_4 z_HN
    obtain ⟨HM_0, HM_1, HM_2, HM_3, HM_4⟩ := blk5 HM.out
    have z_HM := blk_lt HM.out
    obtain ⟨HN_0, HN_1, HN_2, HN_3, HN_4⟩ := blk5 HN.out
    have z_HN := blk_lt HN.out
    go_wp2_with fail
    refine (senvylaw02_Ints.calls k29 XA xc y1 YA yc y1 true _ HX1.out hxc HY1.out hyc E29.out).mono ?_
    rintro e W9 ⟨rfl, hb0⟩
    have hb := below_drawn0 hb0
    clear hb0
    replace HM := Aside0.mk (blk_below HM.out hb)
    replace HR := Aside0.mk (Kd.C_below HR.out hb)
    replace HB := Aside0.mk (below_step HB.out hb)
    replace HO := Aside0.mk (Kd.C_below HO.out hb)
    replace HN := Aside0.mk (blk_below HN.out hb)
    replace HX1 := Aside0.mk (Kd.C_below HX1.out hb)
    replace HY1 := Aside0.mk (Kd.C_below HY1.out hb)
    clear hb
    clear HM_0 HM_1 HM_2 HM_3 HM_4 z_HM HN_0 HN_1 HN_2 HN_3 HN_4 z_HN
    obtain ⟨HM_0, HM_1, HM_2, HM_3, HM_4⟩ := blk5 HM.out
    have z_HM := blk_lt HM.out
    obtain ⟨HN_0, HN_1, HN_2, HN_3, HN_4⟩ := blk5 HN.out
    have z_HN := blk_lt HN.out
    go_wp2_with fail
    refine (senvylaw02_alikeMill.calls k21 s li ga fa OA oc l s li ga fa A c l true _ HO.out hoc HR.out hc E21.out).mono ?_
    rintro e W10 ⟨rfl, hb⟩
    replace HM := Aside0.mk (blk_below HM.out hb)
    replace HR := Aside0.mk (Kd.C_below HR.out hb)
    replace HB := Aside0.mk (below_step HB.out hb)
    replace HO := Aside0.mk (Kd.C_below HO.out hb)
    replace HN := Aside0.mk (blk_below HN.out hb)
    replace HX1 := Aside0.mk (Kd.C_below HX1.out hb)
    replace HY1 := Aside0.mk (Kd.C_below HY1.out hb)
    clear hb
    clear HM_0 HM_1 HM_2 HM_3 HM_4 z_HM HN_0 HN_1 HN_2 HN_3 HN_4 z_HN
    obtain ⟨HM_0, HM_1, HM_2, HM_3, HM_4⟩ := blk5 HM.out
    have z_HM := blk_lt HM.out
    obtain ⟨HN_0, HN_1, HN_2, HN_3, HN_4⟩ := blk5 HN.out
    have z_HN := blk_lt HN.out
    go_wp2_with fail
    refine (works9 _).mono ?_
    rintro e W11 ⟨rfl, hb⟩
    replace HM := Aside0.mk (blk_below HM.out hb)
    replace HR := Aside0.mk (Kd.C_below HR.out hb)
    replace HB := Aside0.mk (below_step HB.out hb)
    replace HO := Aside0.mk (Kd.C_below HO.out hb)
    replace HN := Aside0.mk (blk_below HN.out hb)
    replace HX1 := Aside0.mk (Kd.C_below HX1.out hb)
    replace HY1 := Aside0.mk (Kd.C_below HY1.out hb)
    clear hb
    clear HM_0 HM_1 HM_2 HM_3 HM_4 z_HM HN_0 HN_1 HN_2 HN_3 HN_4 z_HN
    go_wp2
    go_ret
    exact ⟨rfl, HB.out⟩
end Go.Proofs.Ytpoopogojocolaa.P
