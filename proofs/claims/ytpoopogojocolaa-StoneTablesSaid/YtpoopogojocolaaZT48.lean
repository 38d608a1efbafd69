/- The walk of the law StoneTables: whatever is handed in, it returns true, and what lay before lies as it did. -/
import Derived.Deep.RegionHeld3
import Derived.Test.YtpoopogojocolaaZT44
import Derived.Test.YtpoopogojocolaaZT10
import Derived.Test.YtpoopogojocolaaZT12
import Derived.Test.YtpoopogojocolaaZT47
namespace Go.Proofs.Ytpoopogojocolaa.P
open Go.RowKit Go.Shelf Go.Proofs.YtpoopogojocolaaW.PrintWords Go.Proofs.YtpoopogojocolaaW.PrintLast Go.Proofs.YtpoopogojocolaaW.PrintMore
attribute [local go_sem] max2_mx min2_mn max_two min_two
set_option linter.unusedVariables false
set_option linter.unusedSimpArgs false
set_option maxHeartbeats 40000000 in
set_option maxRecDepth 1000000 in
theorem law_StoneTables (s li ga fa : Int) (A : Option Addr) (c : Nat) (l : List S73) (TA : Option Addr) (tc : Nat) (tb : List (List Int)) (w : World) (hr : Kd.C k73 w A l.length l) (hc : l.length ≤ c) (ht : Kd.C (Kd.slice 2 (Kd.int .i64)) w TA tb.length tb) (htc : tb.length ≤ tc) :
    Calls Try.prog 6 #[.agg #[.int .i64 s, .int .i64 li, .int .i64 ga, .int .i64 fa, .slice A l.length c], .slice TA tb.length tc] w fun e w' => e = .returned (.bool true) ∧ Below w.heap.size w w' := by
  have HB := Aside0.mk (hb1 w (.cells #[.int .i64 s, .int .i64 li, .int .i64 ga, .int .i64 fa, .slice A l.length c] 24))
  have HM := Aside0.mk (new_blk w (.cells #[.int .i64 s, .int .i64 li, .int .i64 ga, .int .i64 fa, .slice A l.length c] 24))
  have HR := Aside0.mk (Kd.C_below hr HB.out)
  have HT := Aside0.mk (Kd.C_below ht HB.out)
  obtain ⟨W, hW⟩ : ∃ W, w.alloc (.cells #[.int .i64 s, .int .i64 li, .int .i64 ga, .int .i64 fa, .slice A l.length c] 24) = W := ⟨_, rfl⟩
  rw [hW] at HB HM HR HT
  clear hr ht
  go_enter Try.func6, Try.ntmps6
  go_upto_region 1 with fail
  try rw [hW]
  clear hW
  by_cases hg : (l.length : Int) > 16
  · have hgd : decide ((l.length : Int) > 16) = true := decide_eq_true hg
    obtain ⟨HM_0, HM_1, HM_2, HM_3, HM_4⟩ := blk5 HM.out
    have z_HM := blk_lt HM.out
    go_wp2_with fail
    refine (senvylaw02_great.calls s li ga fa A c l _ _ HR.out hc rfl).mono ?_
    rintro e_ W0 ⟨rfl, hb⟩
    replace HM := Aside0.mk (blk_below HM.out hb)
    replace HR := Aside0.mk (Kd.C_below HR.out hb)
    replace HT := Aside0.mk (Kd.C_below HT.out hb)
    replace HB := Aside0.mk (below_step HB.out hb)
    clear hb
    clear HM_0 HM_1 HM_2 HM_3 HM_4 z_HM
    rw [hgd]
    obtain ⟨HM_0, HM_1, HM_2, HM_3, HM_4⟩ := blk5 HM.out
    have z_HM := blk_lt HM.out
    go_wp2_with fail
    refine (works9 _).mono ?_
    rintro e_ W1 ⟨rfl, hb⟩
    replace HM := Aside0.mk (blk_below HM.out hb)
    replace HR := Aside0.mk (Kd.C_below HR.out hb)
    replace HT := Aside0.mk (Kd.C_below HT.out hb)
    replace HB := Aside0.mk (below_step HB.out hb)
    clear hb
    clear HM_0 HM_1 HM_2 HM_3 HM_4 z_HM
    go_wp2
    go_ret
    exact ⟨rfl, HB.out⟩
  · have hgd : decide ((l.length : Int) > 16) = false := decide_eq_false hg
    obtain ⟨HM_0, HM_1, HM_2, HM_3, HM_4⟩ := blk5 HM.out
    have z_HM := blk_lt HM.out
    go_wp2_with fail
    refine (senvylaw02_great.calls s li ga fa A c l _ _ HR.out hc rfl).mono ?_
    rintro e_ W2 ⟨rfl, hb⟩
    replace HM := Aside0.mk (blk_below HM.out hb)
    replace HR := Aside0.mk (Kd.C_below HR.out hb)
    replace HT := Aside0.mk (Kd.C_below HT.out hb)
    replace HB := Aside0.mk (below_step HB.out hb)
    clear hb
    clear HM_0 HM_1 HM_2 HM_3 HM_4 z_HM
    rw [hgd]
    clear hgd
    obtain ⟨kw, ew⟩ := (wide_ev tb HT.out.2.1).rounds
    obtain ⟨wd, hwd⟩ : ∃ wd, wideF tb = wd := ⟨_, rfl⟩
    rw [hwd] at ew
    have EW := Aside0.mk ew
    have HWD := Aside0.mk hwd
    clear ew hwd
    cases wd with
    | true =>
      obtain ⟨HM_0, HM_1, HM_2, HM_3, HM_4⟩ := blk5 HM.out
      have z_HM := blk_lt HM.out
      go_wp2_with fail
      refine (senvylaw02_wide.calls kw TA tc tb true _ HT.out htc EW.out).mono ?_
      rintro e_ W3 ⟨rfl, hb⟩
      replace HM := Aside0.mk (blk_below HM.out hb)
      replace HR := Aside0.mk (Kd.C_below HR.out hb)
      replace HT := Aside0.mk (Kd.C_below HT.out hb)
      replace HB := Aside0.mk (below_step HB.out hb)
      clear hb
      clear HM_0 HM_1 HM_2 HM_3 HM_4 z_HM
      obtain ⟨HM_0, HM_1, HM_2, HM_3, HM_4⟩ := blk5 HM.out
      have z_HM := blk_lt HM.out
      go_wp2_with fail
      refine (works9 _).mono ?_
      rintro e_ W4 ⟨rfl, hb⟩
      replace HM := Aside0.mk (blk_below HM.out hb)
      replace HR := Aside0.mk (Kd.C_below HR.out hb)
      replace HT := Aside0.mk (Kd.C_below HT.out hb)
      replace HB := Aside0.mk (below_step HB.out hb)
      clear hb
      clear HM_0 HM_1 HM_2 HM_3 HM_4 z_HM
      go_wp2
      go_ret
      exact ⟨rfl, HB.out⟩
    | false =>
      obtain ⟨HM_0, HM_1, HM_2, HM_3, HM_4⟩ := blk5 HM.out
      have z_HM := blk_lt HM.out
      go_wp2_with fail
      refine (senvylaw02_wide.calls kw TA tc tb false _ HT.out htc EW.out).mono ?_
      rintro e_ W5 ⟨rfl, hb⟩
      replace HM := Aside0.mk (blk_below HM.out hb)
      replace HR := Aside0.mk (Kd.C_below HR.out hb)
      replace HT := Aside0.mk (Kd.C_below HT.out hb)
      replace HB := Aside0.mk (below_step HB.out hb)
      clear hb
      clear HM_0 HM_1 HM_2 HM_3 HM_4 z_HM
      have hl : l.length ≤ 1000 := by omega
      obtain ⟨htl, htr⟩ := wide_false.1 HWD.out
      obtain ⟨⟨x1, x2⟩, e36, e37⟩ := table_ev s li ga fa l tb hl (by omega) (fun r hr => Nat.le_trans (htr r hr) (by decide))
      obtain ⟨k37, e37⟩ := e37.rounds
      obtain ⟨t, n, e, e38, e24, tl, tr, he0, hct⟩ := returned_ev s li ga fa l hl
      obtain ⟨k24, e24⟩ := e24.rounds
      obtain ⟨kv, ev⟩ := (wide_ev t (by omega)).rounds
      rw [wide_false.2 ⟨tl, tr⟩] at ev
      obtain ⟨k35, e35⟩ := twin_ev tb htl htr
      obtain ⟨k39, e39⟩ := ar_same tb htl htr
      obtain ⟨k21, e21⟩ := mill_same s li ga fa l hl
      have HE0 := Aside0.mk he0
      have HCT := Aside0.mk hct
      have HTR := Aside0.mk (And.intro htr tr)
      have Ev_ := Aside0.mk ev
      clear he0 hct htr tr ev
      have E36 := Aside0.mk e36
      clear e36
      have E37 := Aside0.mk e37
      clear e37
      have E38 := Aside0.mk e38
      clear e38
      have E24 := Aside0.mk e24
      clear e24
      have E35 := Aside0.mk e35
      clear e35
      have E39 := Aside0.mk e39
      clear e39
      have E21 := Aside0.mk e21
      clear e21
      obtain ⟨HM_0, HM_1, HM_2, HM_3, HM_4⟩ := blk5 HM.out
      have z_HM := blk_lt HM.out
      go_wp2_with fail
      refine (senvylaw02_twinMill.calls s li ga fa A c l s li ga fa l _ HR.out hc (by unfold senvylaw02_twinMill.f; rw [if_pos hl])).mono ?_
      rintro e V0 ⟨v, rfl, hv, hb⟩
      obtain ⟨OA, oc, rfl, hoc, hOC⟩ := Kd.R_reads hv
      have HO := Aside0.mk hOC
      clear hv hOC
      replace HM := Aside0.mk (blk_below HM.out hb)
      replace HR := Aside0.mk (Kd.C_below HR.out hb)
      replace HT := Aside0.mk (Kd.C_below HT.out hb)
      replace HB := Aside0.mk (below_step HB.out hb)
      clear hb
      clear HM_0 HM_1 HM_2 HM_3 HM_4 z_HM
      obtain ⟨V1, hV1⟩ : ∃ V1, V0.alloc (.cells #[.int .i64 s, .int .i64 li, .int .i64 ga, .int .i64 fa, .slice OA l.length oc] 24) = V1 := ⟨_, rfl⟩
      have hb : Below V0.heap.size V0 V1 := by rw [← hV1]; exact hb1 _ _
      have HN := Aside0.mk (show V1.heap[V0.heap.size]? = some (.cells #[.int .i64 s, .int .i64 li, .int .i64 ga, .int .i64 fa, .slice OA l.length oc] 24 (0, 0)) from by rw [← hV1]; exact new_blk _ _)
      go_upto_region 4 with fail
      try rw [hV1]
      replace HM := Aside0.mk (blk_below HM.out hb)
      replace HR := Aside0.mk (Kd.C_below HR.out hb)
      replace HT := Aside0.mk (Kd.C_below HT.out hb)
      replace HB := Aside0.mk (below_step HB.out hb)
      replace HO := Aside0.mk (Kd.C_below HO.out hb)
      clear hb hV1
      obtain ⟨HM_0, HM_1, HM_2, HM_3, HM_4⟩ := blk5 HM.out
      have z_HM := blk_lt HM.out
      obtain ⟨HN_0, HN_1, HN_2, HN_3, HN_4⟩ := blk5 HN.out
      have z_HN := blk_lt HN.out
      go_wp2_with fail
      refine (senvylaw02_twinRows.calls k35 TA tc tb tb _ HT.out htc E35.out).mono ?_
      rintro e_ W6 ⟨v, rfl, hv, hb⟩
      obtain ⟨QA, qc, rfl, hqc, hQC⟩ := Kd.R_reads (Kd.S_R hv)
      clear hv
      have HQ := Aside0.mk (hQC)
      replace HM := Aside0.mk (blk_below HM.out hb)
      replace HR := Aside0.mk (Kd.C_below HR.out hb)
      replace HT := Aside0.mk (Kd.C_below HT.out hb)
      replace HB := Aside0.mk (below_step HB.out hb)
      replace HO := Aside0.mk (Kd.C_below HO.out hb)
      replace HN := Aside0.mk (blk_below HN.out hb)
      clear hb
      clear HM_0 HM_1 HM_2 HM_3 HM_4 z_HM HN_0 HN_1 HN_2 HN_3 HN_4 z_HN
      clear hQC
      obtain ⟨HM_0, HM_1, HM_2, HM_3, HM_4⟩ := blk5 HM.out
      have z_HM := blk_lt HM.out
      obtain ⟨HN_0, HN_1, HN_2, HN_3, HN_4⟩ := blk5 HN.out
      have z_HN := blk_lt HN.out
      go_wp2_with fail
      refine (stone_CheckTable.calls s li ga fa OA oc l QA qc tb x1 x2 _ HO.out hoc HQ.out hqc E36.out).mono ?_
      rintro e_ W7 ⟨rfl, hb⟩
      replace HM := Aside0.mk (blk_below HM.out hb)
      replace HR := Aside0.mk (Kd.C_below HR.out hb)
      replace HT := Aside0.mk (Kd.C_below HT.out hb)
      replace HB := Aside0.mk (below_step HB.out hb)
      replace HO := Aside0.mk (Kd.C_below HO.out hb)
      replace HN := Aside0.mk (blk_below HN.out hb)
      replace HQ := Aside0.mk (Kd.C_below HQ.out hb)
      clear hb
      clear HM_0 HM_1 HM_2 HM_3 HM_4 z_HM HN_0 HN_1 HN_2 HN_3 HN_4 z_HN
      obtain ⟨HM_0, HM_1, HM_2, HM_3, HM_4⟩ := blk5 HM.out
      have z_HM := blk_lt HM.out
      obtain ⟨HN_0, HN_1, HN_2, HN_3, HN_4⟩ := blk5 HN.out
      have z_HN := blk_lt HN.out
      go_wp2_with fail
      refine (senvyref02_CheckTable.calls k37 s li ga fa A c l TA tc tb x1 x2 _ HR.out hc HT.out htc E37.out).mono ?_
      rintro e_ W8 ⟨rfl, hb⟩
      replace HM := Aside0.mk (blk_below HM.out hb)
      replace HR := Aside0.mk (Kd.C_below HR.out hb)
      replace HT := Aside0.mk (Kd.C_below HT.out hb)
      replace HB := Aside0.mk (below_step HB.out hb)
      replace HO := Aside0.mk (Kd.C_below HO.out hb)
      replace HN := Aside0.mk (blk_below HN.out hb)
      replace HQ := Aside0.mk (Kd.C_below HQ.out hb)
      clear hb
      clear HM_0 HM_1 HM_2 HM_3 HM_4 z_HM HN_0 HN_1 HN_2 HN_3 HN_4 z_HN
      obtain ⟨HM_0, HM_1, HM_2, HM_3, HM_4⟩ := blk5 HM.out
      have z_HM := blk_lt HM.out
      obtain ⟨HN_0, HN_1, HN_2, HN_3, HN_4⟩ := blk5 HN.out
      have z_HN := blk_lt HN.out
      go_wp2_with fail
      refine (stone_Table.calls s li ga fa OA oc l t e _ HO.out hoc E38.out).mono ?_
      rintro e_ W9 ⟨v, rfl, hv, hb⟩
      obtain ⟨XA, xc, rfl, hxc, hXC⟩ := Kd.R_reads (Kd.S_R hv)
      clear hv
      have HX1 := Aside0.mk (hXC)
      replace HM := Aside0.mk (blk_below HM.out hb)
      replace HR := Aside0.mk (Kd.C_below HR.out hb)
      replace HT := Aside0.mk (Kd.C_below HT.out hb)
      replace HB := Aside0.mk (below_step HB.out hb)
      replace HO := Aside0.mk (Kd.C_below HO.out hb)
      replace HN := Aside0.mk (blk_below HN.out hb)
      replace HQ := Aside0.mk (Kd.C_below HQ.out hb)
      clear hb
      clear HM_0 HM_1 HM_2 HM_3 HM_4 z_HM HN_0 HN_1 HN_2 HN_3 HN_4 z_HN
      clear hXC
      obtain ⟨HM_0, HM_1, HM_2, HM_3, HM_4⟩ := blk5 HM.out
      have z_HM := blk_lt HM.out
      obtain ⟨HN_0, HN_1, HN_2, HN_3, HN_4⟩ := blk5 HN.out
      have z_HN := blk_lt HN.out
      go_wp2_with fail
      refine (senvyref02_Most.calls k24 s li ga fa A c l n e _ HR.out hc E24.out).mono ?_
      rintro e_ W10 ⟨rfl, hb⟩
      replace HM := Aside0.mk (blk_below HM.out hb)
      replace HR := Aside0.mk (Kd.C_below HR.out hb)
      replace HT := Aside0.mk (Kd.C_below HT.out hb)
      replace HB := Aside0.mk (below_step HB.out hb)
      replace HO := Aside0.mk (Kd.C_below HO.out hb)
      replace HN := Aside0.mk (blk_below HN.out hb)
      replace HQ := Aside0.mk (Kd.C_below HQ.out hb)
      replace HX1 := Aside0.mk (Kd.C_below HX1.out hb)
      clear hb
      clear HM_0 HM_1 HM_2 HM_3 HM_4 z_HM HN_0 HN_1 HN_2 HN_3 HN_4 z_HN
      obtain ⟨HM_0, HM_1, HM_2, HM_3, HM_4⟩ := blk5 HM.out
      have z_HM := blk_lt HM.out
      obtain ⟨HN_0, HN_1, HN_2, HN_3, HN_4⟩ := blk5 HN.out
      have z_HN := blk_lt HN.out
      go_wp2_with fail
      refine (senvylaw02_wide.calls kv XA xc t false _ HX1.out hxc Ev_.out).mono ?_
      rintro e_ W11 ⟨rfl, hb⟩
      replace HM := Aside0.mk (blk_below HM.out hb)
      replace HR := Aside0.mk (Kd.C_below HR.out hb)
      replace HT := Aside0.mk (Kd.C_below HT.out hb)
      replace HB := Aside0.mk (below_step HB.out hb)
      replace HO := Aside0.mk (Kd.C_below HO.out hb)
      replace HN := Aside0.mk (blk_below HN.out hb)
      replace HQ := Aside0.mk (Kd.C_below HQ.out hb)
      replace HX1 := Aside0.mk (Kd.C_below HX1.out hb)
      clear hb
      clear HM_0 HM_1 HM_2 HM_3 HM_4 z_HM HN_0 HN_1 HN_2 HN_3 HN_4 z_HN
      by_cases he : e = 0
      · subst he
        obtain ⟨kq, eq⟩ := (HCT.out rfl).rounds
        have EQ := Aside0.mk eq
        clear eq
        obtain ⟨HM_0, HM_1, HM_2, HM_3, HM_4⟩ := blk5 HM.out
        have z_HM := blk_lt HM.out
        obtain ⟨HN_0, HN_1, HN_2, HN_3, HN_4⟩ := blk5 HN.out
        have z_HN := blk_lt HN.out
        go_wp2_with fail
        refine (senvyref02_CheckTable.calls kq s li ga fa A c l XA xc t n 0 _ HR.out hc HX1.out hxc EQ.out).mono ?_
        rintro e_ W12 ⟨rfl, hb⟩
        replace HM := Aside0.mk (blk_below HM.out hb)
        replace HR := Aside0.mk (Kd.C_below HR.out hb)
        replace HT := Aside0.mk (Kd.C_below HT.out hb)
        replace HB := Aside0.mk (below_step HB.out hb)
        replace HO := Aside0.mk (Kd.C_below HO.out hb)
        replace HN := Aside0.mk (blk_below HN.out hb)
        replace HQ := Aside0.mk (Kd.C_below HQ.out hb)
        replace HX1 := Aside0.mk (Kd.C_below HX1.out hb)
        clear hb
        clear HM_0 HM_1 HM_2 HM_3 HM_4 z_HM HN_0 HN_1 HN_2 HN_3 HN_4 z_HN
        obtain ⟨HM_0, HM_1, HM_2, HM_3, HM_4⟩ := blk5 HM.out
        have z_HM := blk_lt HM.out
        obtain ⟨HN_0, HN_1, HN_2, HN_3, HN_4⟩ := blk5 HN.out
        have z_HN := blk_lt HN.out
        go_wp2_with fail
        refine (senvylaw02_alikeMill.calls k21 s li ga fa OA oc l s li ga fa A c l true _ HO.out hoc HR.out hc E21.out).mono ?_
        rintro e_ W13 ⟨rfl, hb⟩
        replace HM := Aside0.mk (blk_below HM.out hb)
        replace HR := Aside0.mk (Kd.C_below HR.out hb)
        replace HT := Aside0.mk (Kd.C_below HT.out hb)
        replace HB := Aside0.mk (below_step HB.out hb)
        replace HO := Aside0.mk (Kd.C_below HO.out hb)
        replace HN := Aside0.mk (blk_below HN.out hb)
        replace HQ := Aside0.mk (Kd.C_below HQ.out hb)
        replace HX1 := Aside0.mk (Kd.C_below HX1.out hb)
        clear hb
        clear HM_0 HM_1 HM_2 HM_3 HM_4 z_HM HN_0 HN_1 HN_2 HN_3 HN_4 z_HN
        obtain ⟨HM_0, HM_1, HM_2, HM_3, HM_4⟩ := blk5 HM.out
        have z_HM := blk_lt HM.out
        obtain ⟨HN_0, HN_1, HN_2, HN_3, HN_4⟩ := blk5 HN.out
        have z_HN := blk_lt HN.out
        go_wp2_with fail
        refine (senvylaw02_alikeRows.calls k39 QA qc tb TA tc tb true _ HQ.out hqc HT.out htc E39.out).mono ?_
        rintro e_ W14 ⟨rfl, hb0⟩
        have hb := below_drawn0 hb0
        clear hb0
        replace HM := Aside0.mk (blk_below HM.out hb)
        replace HR := Aside0.mk (Kd.C_below HR.out hb)
        replace HT := Aside0.mk (Kd.C_below HT.out hb)
        replace HB := Aside0.mk (below_step HB.out hb)
        replace HO := Aside0.mk (Kd.C_below HO.out hb)
        replace HN := Aside0.mk (blk_below HN.out hb)
        replace HQ := Aside0.mk (Kd.C_below HQ.out hb)
        replace HX1 := Aside0.mk (Kd.C_below HX1.out hb)
        clear hb
        clear HM_0 HM_1 HM_2 HM_3 HM_4 z_HM HN_0 HN_1 HN_2 HN_3 HN_4 z_HN
        obtain ⟨HM_0, HM_1, HM_2, HM_3, HM_4⟩ := blk5 HM.out
        have z_HM := blk_lt HM.out
        obtain ⟨HN_0, HN_1, HN_2, HN_3, HN_4⟩ := blk5 HN.out
        have z_HN := blk_lt HN.out
        go_wp2_with fail
        refine (works9 _).mono ?_
        rintro e_ W15 ⟨rfl, hb⟩
        replace HM := Aside0.mk (blk_below HM.out hb)
        replace HR := Aside0.mk (Kd.C_below HR.out hb)
        replace HT := Aside0.mk (Kd.C_below HT.out hb)
        replace HB := Aside0.mk (below_step HB.out hb)
        replace HO := Aside0.mk (Kd.C_below HO.out hb)
        replace HN := Aside0.mk (blk_below HN.out hb)
        replace HQ := Aside0.mk (Kd.C_below HQ.out hb)
        replace HX1 := Aside0.mk (Kd.C_below HX1.out hb)
        clear hb
        clear HM_0 HM_1 HM_2 HM_3 HM_4 z_HM HN_0 HN_1 HN_2 HN_3 HN_4 z_HN
        go_wp2
        go_ret
        exact ⟨rfl, HB.out⟩
      · obtain rfl : t = [] := HE0.out he
        have h1 : (e == 0) = false := by simpa using he
        have h2 : (e != 0) = true := by simpa using he
        clear he
        obtain ⟨HM_0, HM_1, HM_2, HM_3, HM_4⟩ := blk5 HM.out
        have z_HM := blk_lt HM.out
        obtain ⟨HN_0, HN_1, HN_2, HN_3, HN_4⟩ := blk5 HN.out
        have z_HN := blk_lt HN.out
        go_wp2_with fail
        refine (senvylaw02_alikeMill.calls k21 s li ga fa OA oc l s li ga fa A c l true _ HO.out hoc HR.out hc E21.out).mono ?_
        rintro e_ W16 ⟨rfl, hb⟩
        replace HM := Aside0.mk (blk_below HM.out hb)
        replace HR := Aside0.mk (Kd.C_below HR.out hb)
        replace HT := Aside0.mk (Kd.C_below HT.out hb)
        replace HB := Aside0.mk (below_step HB.out hb)
        replace HO := Aside0.mk (Kd.C_below HO.out hb)
        replace HN := Aside0.mk (blk_below HN.out hb)
        replace HQ := Aside0.mk (Kd.C_below HQ.out hb)
        replace HX1 := Aside0.mk (Kd.C_below HX1.out hb)
        clear hb
        clear HM_0 HM_1 HM_2 HM_3 HM_4 z_HM HN_0 HN_1 HN_2 HN_3 HN_4 z_HN
        obtain ⟨HM_0, HM_1, HM_2, HM_3, HM_4⟩ := blk5 HM.out
        have z_HM := blk_lt HM.out
        obtain ⟨HN_0, HN_1, HN_2, HN_3, HN_4⟩ := blk5 HN.out
        have z_HN := blk_lt HN.out
        go_wp2_with fail
        refine (senvylaw02_alikeRows.calls k39 QA qc tb TA tc tb true _ HQ.out hqc HT.out htc E39.out).mono ?_
        rintro e_ W17 ⟨rfl, hb0⟩
        have hb := below_drawn0 hb0
        clear hb0
        replace HM := Aside0.mk (blk_below HM.out hb)
        replace HR := Aside0.mk (Kd.C_below HR.out hb)
        replace HT := Aside0.mk (Kd.C_below HT.out hb)
        replace HB := Aside0.mk (below_step HB.out hb)
        replace HO := Aside0.mk (Kd.C_below HO.out hb)
        replace HN := Aside0.mk (blk_below HN.out hb)
        replace HQ := Aside0.mk (Kd.C_below HQ.out hb)
        replace HX1 := Aside0.mk (Kd.C_below HX1.out hb)
        clear hb
        clear HM_0 HM_1 HM_2 HM_3 HM_4 z_HM HN_0 HN_1 HN_2 HN_3 HN_4 z_HN
        obtain ⟨HM_0, HM_1, HM_2, HM_3, HM_4⟩ := blk5 HM.out
        have z_HM := blk_lt HM.out
        obtain ⟨HN_0, HN_1, HN_2, HN_3, HN_4⟩ := blk5 HN.out
        have z_HN := blk_lt HN.out
        go_wp2_with fail
        refine (works9 _).mono ?_
        rintro e_ W18 ⟨rfl, hb⟩
        replace HM := Aside0.mk (blk_below HM.out hb)
        replace HR := Aside0.mk (Kd.C_below HR.out hb)
        replace HT := Aside0.mk (Kd.C_below HT.out hb)
        replace HB := Aside0.mk (below_step HB.out hb)
        replace HO := Aside0.mk (Kd.C_below HO.out hb)
        replace HN := Aside0.mk (blk_below HN.out hb)
        replace HQ := Aside0.mk (Kd.C_below HQ.out hb)
        replace HX1 := Aside0.mk (Kd.C_below HX1.out hb)
        clear hb
        clear HM_0 HM_1 HM_2 HM_3 HM_4 z_HM HN_0 HN_1 HN_2 HN_3 HN_4 z_HN
        go_wp2
        go_ret
        exact ⟨rfl, HB.out⟩
end Go.Proofs.Ytpoopogojocolaa.P
