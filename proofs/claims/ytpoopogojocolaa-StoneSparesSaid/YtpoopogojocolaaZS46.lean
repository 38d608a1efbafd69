/- The walk of the law StoneSpares: whatever is handed in, it returns true, and what lay before lies as it did. -/
import Derived.Deep.RegionHeld3
import Derived.Test.YtpoopogojocolaaZS39
import Derived.Test.YtpoopogojocolaaZS10
import Derived.Test.YtpoopogojocolaaZS12
import Derived.Test.YtpoopogojocolaaZS45
namespace Go.Proofs.Ytpoopogojocolaa.P
open Go.RowKit Go.Shelf Go.Proofs.YtpoopogojocolaaW.PrintWords Go.Proofs.YtpoopogojocolaaW.PrintLast Go.Proofs.YtpoopogojocolaaW.PrintMore
attribute [local go_sem] max2_mx min2_mn max_two min_two
set_option linter.unusedVariables false
set_option linter.unusedSimpArgs false
set_option maxHeartbeats 40000000 in
set_option maxRecDepth 1000000 in
theorem law_StoneSpares (s li ga fa : Int) (A : Option Addr) (c : Nat) (l : List S73) (PA : Option Addr) (pc : Nat) (p : List Int) (w : World) (hr : Kd.C k73 w A l.length l) (hc : l.length ≤ c) (hp : Kd.C (Kd.int .i64) w PA p.length p) (hpc : p.length ≤ pc) :
    Calls Try.prog 5 #[.agg #[.int .i64 s, .int .i64 li, .int .i64 ga, .int .i64 fa, .slice A l.length c], .slice PA p.length pc] w fun e w' => e = .returned (.bool true) ∧ Below w.heap.size w w' := by
  have HB := Aside0.mk (hb1 w (.cells #[.int .i64 s, .int .i64 li, .int .i64 ga, .int .i64 fa, .slice A l.length c] 24))
  have HM := Aside0.mk (new_blk w (.cells #[.int .i64 s, .int .i64 li, .int .i64 ga, .int .i64 fa, .slice A l.length c] 24))
  have HR := Aside0.mk (Kd.C_below hr HB.out)
  have HP := Aside0.mk (Kd.C_below hp HB.out)
  obtain ⟨W, hW⟩ : ∃ W, w.alloc (.cells #[.int .i64 s, .int .i64 li, .int .i64 ga, .int .i64 fa, .slice A l.length c] 24) = W := ⟨_, rfl⟩
  rw [hW] at HB HM HR HP
  clear hr hp
  go_enter Try.func5, Try.ntmps5
  go_upto_region 1 with fail
  try rw [hW]
  clear hW
  by_cases hg : (l.length : Int) > 16
  · have hgd : decide ((l.length : Int) > 16) = true := decide_eq_true hg
    obtain ⟨HM_0, HM_1, HM_2, HM_3, HM_4⟩ := blk5 HM.out
    have z_HM := blk_lt HM.out
    go_wp2_with fail
    refine (senvylaw02_great.calls s li ga fa A c l _ _ HR.out hc rfl).mono ?_
    rintro e W0 ⟨rfl, hb⟩
    replace HM := Aside0.mk (blk_below HM.out hb)
    replace HR := Aside0.mk (Kd.C_below HR.out hb)
    replace HP := Aside0.mk (Kd.C_below HP.out hb)
    replace HB := Aside0.mk (below_step HB.out hb)
    clear hb
    clear HM_0 HM_1 HM_2 HM_3 HM_4 z_HM
    rw [hgd]
    obtain ⟨HM_0, HM_1, HM_2, HM_3, HM_4⟩ := blk5 HM.out
    have z_HM := blk_lt HM.out
    go_wp2_with fail
    refine (works9 _).mono ?_
    rintro e W1 ⟨rfl, hb⟩
    replace HM := Aside0.mk (blk_below HM.out hb)
    replace HR := Aside0.mk (Kd.C_below HR.out hb)
    replace HP := Aside0.mk (Kd.C_below HP.out hb)
    replace HB := Aside0.mk (below_step HB.out hb)
    clear hb
    clear HM_0 HM_1 HM_2 HM_3 HM_4 z_HM
    go_wp2
    go_ret
    exact ⟨rfl, HB.out⟩
  · have hgd : decide ((l.length : Int) > 16) = false := decide_eq_false hg
    obtain ⟨HM_0, HM_1, HM_2, HM_3, HM_4⟩ := blk5 HM.out
    have z_HM := blk_lt HM.out
    go_wp2_with fail
    refine (senvylaw02_great.calls s li ga fa A c l _ _ HR.out hc rfl).mono ?_
    rintro e W2 ⟨rfl, hb⟩
    replace HM := Aside0.mk (blk_below HM.out hb)
    replace HR := Aside0.mk (Kd.C_below HR.out hb)
    replace HP := Aside0.mk (Kd.C_below HP.out hb)
    replace HB := Aside0.mk (below_step HB.out hb)
    clear hb
    clear HM_0 HM_1 HM_2 HM_3 HM_4 z_HM
    rw [hgd]
    clear hgd
    by_cases hlo : (p.length : Int) > 20
    · have hlod : decide ((p.length : Int) > 20) = true := decide_eq_true hlo
      obtain ⟨HM_0, HM_1, HM_2, HM_3, HM_4⟩ := blk5 HM.out
      have z_HM := blk_lt HM.out
      go_wp2_with fail
      refine (senvylaw02_long.calls PA pc p _ _ HP.out hpc rfl).mono ?_
      rintro e W3 ⟨rfl, hb0⟩
      have hb := below_drawn0 hb0
      clear hb0
      replace HM := Aside0.mk (blk_below HM.out hb)
      replace HR := Aside0.mk (Kd.C_below HR.out hb)
      replace HP := Aside0.mk (Kd.C_below HP.out hb)
      replace HB := Aside0.mk (below_step HB.out hb)
      clear hb
      clear HM_0 HM_1 HM_2 HM_3 HM_4 z_HM
      rw [hlod]
      obtain ⟨HM_0, HM_1, HM_2, HM_3, HM_4⟩ := blk5 HM.out
      have z_HM := blk_lt HM.out
      go_wp2_with fail
      refine (works9 _).mono ?_
      rintro e W4 ⟨rfl, hb⟩
      replace HM := Aside0.mk (blk_below HM.out hb)
      replace HR := Aside0.mk (Kd.C_below HR.out hb)
      replace HP := Aside0.mk (Kd.C_below HP.out hb)
      replace HB := Aside0.mk (below_step HB.out hb)
      clear hb
      clear HM_0 HM_1 HM_2 HM_3 HM_4 z_HM
      go_wp2
      go_ret
      exact ⟨rfl, HB.out⟩
    · have hlod : decide ((p.length : Int) > 20) = false := decide_eq_false hlo
      obtain ⟨HM_0, HM_1, HM_2, HM_3, HM_4⟩ := blk5 HM.out
      have z_HM := blk_lt HM.out
      go_wp2_with fail
      refine (senvylaw02_long.calls PA pc p _ _ HP.out hpc rfl).mono ?_
      rintro e W5 ⟨rfl, hb0⟩
      have hb := below_drawn0 hb0
      clear hb0
      replace HM := Aside0.mk (blk_below HM.out hb)
      replace HR := Aside0.mk (Kd.C_below HR.out hb)
      replace HP := Aside0.mk (Kd.C_below HP.out hb)
      replace HB := Aside0.mk (below_step HB.out hb)
      clear hb
      clear HM_0 HM_1 HM_2 HM_3 HM_4 z_HM
      rw [hlod]
      clear hlod
      have hl : l.length ≤ 1000 := by omega
      have hpl : p.length ≤ 1000 := by omega
      obtain ⟨⟨x1, x2, x3⟩, e30, e31⟩ := spares_ev s li ga fa l p hl hpl
      obtain ⟨k31, e31⟩ := e31.rounds
      obtain ⟨⟨y1, y2⟩, e32, e33⟩ := latest_ev s li ga fa l p hl hpl
      obtain ⟨k33, e33⟩ := e33.rounds
      have hyl : y1.length ≤ 1000 := latest_len e32 hpl
      obtain ⟨k20, e20⟩ := longs_same y1 hyl
      obtain ⟨k21, e21⟩ := mill_same s li ga fa l hl
      obtain ⟨k22, e22⟩ := alike_same p hpl
      have E30 := Aside0.mk e30
      clear e30
      have E31 := Aside0.mk e31
      clear e31
      have E32 := Aside0.mk e32
      clear e32
      have E33 := Aside0.mk e33
      clear e33
      have E20 := Aside0.mk e20
      clear e20
      have E21 := Aside0.mk e21
      clear e21
      have E22 := Aside0.mk e22
      clear e22
      obtain ⟨HM_0, HM_1, HM_2, HM_3, HM_4⟩ := blk5 HM.out
      have z_HM := blk_lt HM.out
      go_wp2_with fail
      refine (senvylaw02_twinMill.calls s li ga fa A c l s li ga fa l _ HR.out hc (by unfold senvylaw02_twinMill.f; rw [if_pos hl])).mono ?_
      rintro e V0 ⟨v, rfl, hv, hb⟩
      obtain ⟨OA, oc, rfl, hoc, hOC⟩ := Kd.R_reads hv
      have HO := Aside0.mk hOC
      clear hv hOC
      replace HM := Aside0.mk (blk_below HM.out hb)
      replace HR := Aside0.mk (Kd.C_below HR.out hb)
      replace HP := Aside0.mk (Kd.C_below HP.out hb)
      replace HB := Aside0.mk (below_step HB.out hb)
      clear hb
      clear HM_0 HM_1 HM_2 HM_3 HM_4 z_HM
      obtain ⟨V1, hV1⟩ : ∃ V1, V0.alloc (.cells #[.int .i64 s, .int .i64 li, .int .i64 ga, .int .i64 fa, .slice OA l.length oc] 24) = V1 := ⟨_, rfl⟩
      have hb : Below V0.heap.size V0 V1 := by rw [← hV1]; exact hb1 _ _
      have HN := Aside0.mk (show V1.heap[V0.heap.size]? = some (.cells #[.int .i64 s, .int .i64 li, .int .i64 ga, .int .i64 fa, .slice OA l.length oc] 24 (0, 0)) from by rw [← hV1]; exact new_blk _ _)
      go_upto_region 4 with fail
      try rw [hV1]
      replace HM := Aside0.mk (blk_below HM.out hb)
      replace HR := Aside0.mk (Kd.C_below HR.out hb)
      replace HP := Aside0.mk (Kd.C_below HP.out hb)
      replace HB := Aside0.mk (below_step HB.out hb)
      replace HO := Aside0.mk (Kd.C_below HO.out hb)
      clear hb hV1
      obtain ⟨HM_0, HM_1, HM_2, HM_3, HM_4⟩ := blk5 HM.out
      have z_HM := blk_lt HM.out
      obtain ⟨HN_0, HN_1, HN_2, HN_3, HN_4⟩ := blk5 HN.out
      have z_HN := blk_lt HN.out
      go_wp2_with fail
      refine (senvylaw02_twinInts.calls PA pc p p _ HP.out hpc (by unfold senvylaw02_twinInts.f; rw [if_pos hpl])).mono ?_
      rintro e W6 ⟨v, rfl, hv, hb⟩
      obtain ⟨QA, qc, rfl, hqc, hQC⟩ := Kd.R_reads hv
      clear hv
      have HQ := Aside0.mk (hQC)
      replace HM := Aside0.mk (blk_below HM.out hb)
      replace HR := Aside0.mk (Kd.C_below HR.out hb)
      replace HP := Aside0.mk (Kd.C_below HP.out hb)
      replace HB := Aside0.mk (below_step HB.out hb)
      replace HO := Aside0.mk (Kd.C_below HO.out hb)
      replace HN := Aside0.mk (blk_below HN.out hb)
      clear hb
      clear HM_0 HM_1 HM_2 HM_3 HM_4 z_HM HN_0 HN_1 HN_2 HN_3 HN_4 z_HN
      clear hQC
      obtain ⟨HM_0, HM_1, HM_2, HM_3, HM_4⟩ := blk5 HM.out
      have z_HM := blk_lt HM.out
      obtain ⟨HN_0, HN_1, HN_2, HN_3, HN_4⟩ := blk5 HN.out
      have z_HN := blk_lt HN.out
      go_wp2_with fail
      refine (stone_Spares.calls s li ga fa OA oc l QA qc p x1 x2 x3 _ HO.out hoc HQ.out hqc E30.out).mono ?_
      rintro e W7 ⟨rfl, hb⟩
      replace HM := Aside0.mk (blk_below HM.out hb)
      replace HR := Aside0.mk (Kd.C_below HR.out hb)
      replace HP := Aside0.mk (Kd.C_below HP.out hb)
      replace HB := Aside0.mk (below_step HB.out hb)
      replace HO := Aside0.mk (Kd.C_below HO.out hb)
      replace HN := Aside0.mk (blk_below HN.out hb)
      replace HQ := Aside0.mk (Kd.C_below HQ.out hb)
      clear hb
      clear HM_0 HM_1 HM_2 HM_3 HM_4 z_HM HN_0 HN_1 HN_2 HN_3 HN_4 z_HN
      obtain ⟨HM_0, HM_1, HM_2, HM_3, HM_4⟩ := blk5 HM.out
      have z_HM := blk_lt HM.out
      obtain ⟨HN_0, HN_1, HN_2, HN_3, HN_4⟩ := blk5 HN.out
      have z_HN := blk_lt HN.out
      go_wp2_with fail
      refine (senvyref02_Spares.calls k31 s li ga fa A c l PA pc p x1 x2 x3 _ HR.out hc HP.out hpc E31.out).mono ?_
      rintro e W8 ⟨rfl, hb⟩
      replace HM := Aside0.mk (blk_below HM.out hb)
      replace HR := Aside0.mk (Kd.C_below HR.out hb)
      replace HP := Aside0.mk (Kd.C_below HP.out hb)
      replace HB := Aside0.mk (below_step HB.out hb)
      replace HO := Aside0.mk (Kd.C_below HO.out hb)
      replace HN := Aside0.mk (blk_below HN.out hb)
      replace HQ := Aside0.mk (Kd.C_below HQ.out hb)
      clear hb
      clear HM_0 HM_1 HM_2 HM_3 HM_4 z_HM HN_0 HN_1 HN_2 HN_3 HN_4 z_HN
      obtain ⟨HM_0, HM_1, HM_2, HM_3, HM_4⟩ := blk5 HM.out
      have z_HM := blk_lt HM.out
      obtain ⟨HN_0, HN_1, HN_2, HN_3, HN_4⟩ := blk5 HN.out
      have z_HN := blk_lt HN.out
      go_wp2_with fail
      refine (stone_Latest.calls s li ga fa OA oc l QA qc p y1 y2 _ HO.out hoc HQ.out hqc E32.out).mono ?_
      rintro e W9 ⟨v, rfl, hv, hb⟩
      obtain ⟨XA, xc, rfl, hxc, hXC⟩ := Kd.R_reads hv
      clear hv
      have HX1 := Aside0.mk (hXC)
      replace HM := Aside0.mk (blk_below HM.out hb)
      replace HR := Aside0.mk (Kd.C_below HR.out hb)
      replace HP := Aside0.mk (Kd.C_below HP.out hb)
      replace HB := Aside0.mk (below_step HB.out hb)
      replace HO := Aside0.mk (Kd.C_below HO.out hb)
      replace HN := Aside0.mk (blk_below HN.out hb)
      replace HQ := Aside0.mk (Kd.C_below HQ.out hb)
      clear hb
      clear HM_0 HM_1 HM_2 HM_3 HM_4 z_HM HN_0 HN_1 HN_2 HN_3 HN_4 z_HN
      clear hXC
      obtain ⟨HM_0, HM_1, HM_2, HM_3, HM_4⟩ := blk5 HM.out
      have z_HM := blk_lt HM.out
      obtain ⟨HN_0, HN_1, HN_2, HN_3, HN_4⟩ := blk5 HN.out
      have z_HN := blk_lt HN.out
      go_wp2_with fail
      refine (senvyref02_Latest.calls k33 s li ga fa A c l PA pc p y1 y2 _ HR.out hc HP.out hpc E33.out).mono ?_
      rintro e W10 ⟨v, rfl, hv, hb⟩
      obtain ⟨YA, yc, rfl, hyc, hYC⟩ := Kd.R_reads hv
      clear hv
      have HY1 := Aside0.mk (hYC)
      replace HM := Aside0.mk (blk_below HM.out hb)
      replace HR := Aside0.mk (Kd.C_below HR.out hb)
      replace HP := Aside0.mk (Kd.C_below HP.out hb)
      replace HB := Aside0.mk (below_step HB.out hb)
      replace HO := Aside0.mk (Kd.C_below HO.out hb)
      replace HN := Aside0.mk (blk_below HN.out hb)
      replace HQ := Aside0.mk (Kd.C_below HQ.out hb)
      replace HX1 := Aside0.mk (Kd.C_below HX1.out hb)
      clear hb
      clear HM_0 HM_1 HM_2 HM_3 HM_4 z_HM HN_0 HN_1 HN_2 HN_3 HN_4 z_HN
      clear hYC
      obtain ⟨HM_0, HM_1, HM_2, HM_3, HM_4⟩ := blk5 HM.out
      have z_HM := blk_lt HM.out
      obtain ⟨HN_0, HN_1, HN_2, HN_3, HN_4⟩ := blk5 HN.out
      have z_HN := blk_lt HN.out
      go_wp2_with fail
      refine (senvylaw02_Longs.calls k20 XA xc y1 YA yc y1 true _ HX1.out hxc HY1.out hyc E20.out).mono ?_
      rintro e W11 ⟨rfl, hb0⟩
      have hb := below_drawn0 hb0
      clear hb0
      replace HM := Aside0.mk (blk_below HM.out hb)
      replace HR := Aside0.mk (Kd.C_below HR.out hb)
      replace HP := Aside0.mk (Kd.C_below HP.out hb)
      replace HB := Aside0.mk (below_step HB.out hb)
      replace HO := Aside0.mk (Kd.C_below HO.out hb)
      replace HN := Aside0.mk (blk_below HN.out hb)
      replace HQ := Aside0.mk (Kd.C_below HQ.out hb)
      replace HX1 := Aside0.mk (Kd.C_below HX1.out hb)
      replace HY1 := Aside0.mk (Kd.C_below HY1.out hb)
      clear hb
      clear HM_0 HM_1 HM_2 HM_3 HM_4 z_HM HN_0 HN_1 HN_2 HN_3 HN_4 z_HN
      obtain ⟨HM_0, HM_1, HM_2, HM_3, HM_4⟩ := blk5 HM.out
      have z_HM := blk_lt HM.out
      obtain ⟨HN_0, HN_1, HN_2, HN_3, HN_4⟩ := blk5 HN.out
      have z_HN := blk_lt HN.out
      go_wp2_with fail
      refine (senvylaw02_alikeMill.calls k21 s li ga fa OA oc l s li ga fa A c l true _ HO.out hoc HR.out hc E21.out).mono ?_
      rintro e W12 ⟨rfl, hb⟩
      replace HM := Aside0.mk (blk_below HM.out hb)
      replace HR := Aside0.mk (Kd.C_below HR.out hb)
      replace HP := Aside0.mk (Kd.C_below HP.out hb)
      replace HB := Aside0.mk (below_step HB.out hb)
      replace HO := Aside0.mk (Kd.C_below HO.out hb)
      replace HN := Aside0.mk (blk_below HN.out hb)
      replace HQ := Aside0.mk (Kd.C_below HQ.out hb)
      replace HX1 := Aside0.mk (Kd.C_below HX1.out hb)
      replace HY1 := Aside0.mk (Kd.C_below HY1.out hb)
      clear hb
      clear HM_0 HM_1 HM_2 HM_3 HM_4 z_HM HN_0 HN_1 HN_2 HN_3 HN_4 z_HN
      obtain ⟨HM_0, HM_1, HM_2, HM_3, HM_4⟩ := blk5 HM.out
      have z_HM := blk_lt HM.out
      obtain ⟨HN_0, HN_1, HN_2, HN_3, HN_4⟩ := blk5 HN.out
      have z_HN := blk_lt HN.out
      go_wp2_with fail
      refine (senvylaw02_alikeInts.calls k22 QA qc p PA pc p true _ HQ.out hqc HP.out hpc E22.out).mono ?_
      rintro e W13 ⟨rfl, hb0⟩
      have hb := below_drawn0 hb0
      clear hb0
      replace HM := Aside0.mk (blk_below HM.out hb)
      replace HR := Aside0.mk (Kd.C_below HR.out hb)
      replace HP := Aside0.mk (Kd.C_below HP.out hb)
      replace HB := Aside0.mk (below_step HB.out hb)
      replace HO := Aside0.mk (Kd.C_below HO.out hb)
      replace HN := Aside0.mk (blk_below HN.out hb)
      replace HQ := Aside0.mk (Kd.C_below HQ.out hb)
      replace HX1 := Aside0.mk (Kd.C_below HX1.out hb)
      replace HY1 := Aside0.mk (Kd.C_below HY1.out hb)
      clear hb
      clear HM_0 HM_1 HM_2 HM_3 HM_4 z_HM HN_0 HN_1 HN_2 HN_3 HN_4 z_HN
      obtain ⟨HM_0, HM_1, HM_2, HM_3, HM_4⟩ := blk5 HM.out
      have z_HM := blk_lt HM.out
      obtain ⟨HN_0, HN_1, HN_2, HN_3, HN_4⟩ := blk5 HN.out
      have z_HN := blk_lt HN.out
      go_wp2_with fail
      refine (works9 _).mono ?_
      rintro e W14 ⟨rfl, hb⟩
      replace HM := Aside0.mk (blk_below HM.out hb)
      replace HR := Aside0.mk (Kd.C_below HR.out hb)
      replace HP := Aside0.mk (Kd.C_below HP.out hb)
      replace HB := Aside0.mk (below_step HB.out hb)
      replace HO := Aside0.mk (Kd.C_below HO.out hb)
      replace HN := Aside0.mk (blk_below HN.out hb)
      replace HQ := Aside0.mk (Kd.C_below HQ.out hb)
      replace HX1 := Aside0.mk (Kd.C_below HX1.out hb)
      replace HY1 := Aside0.mk (Kd.C_below HY1.out hb)
      clear hb
      clear HM_0 HM_1 HM_2 HM_3 HM_4 z_HM HN_0 HN_1 HN_2 HN_3 HN_4 z_HN
      go_wp2
      go_ret
      exact ⟨rfl, HB.out⟩
end Go.Proofs.Ytpoopogojocolaa.P
