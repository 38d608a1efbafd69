/- The contract of stone's Plan. -/
import Derived.Deep.DeepCutAuto
import Derived.Test.YtpoopogojocolaaZT37
namespace Go.Proofs.Ytpoopogojocolaa.P
open Go.RowKit Go.Shelf Go.Proofs.YtpoopogojocolaaW.PrintWords Go.Proofs.YtpoopogojocolaaW.PrintLast Go.Proofs.YtpoopogojocolaaW.PrintMore
attribute [local go_sem] max2_mx min2_mn max_two min_two
set_option linter.unusedVariables false
set_option linter.unusedSimpArgs false
theorem alloc_kept {X w3 : World} {o : Obj} (h : Below (X.alloc o).heap.size (X.alloc o) w3) : w3.heap[X.heap.size]? = some o := by
  rw [h.block _ (by simp)]
  exact new_blk X o
theorem alloc_keptd {X w3 : World} {o : Obj} (h : Below (X.alloc o).drew.heap.size (X.alloc o).drew w3) : w3.heap[X.heap.size]? = some o := alloc_kept (X := X) (o := o) ((below_drew1 (Below.refl _ _)).trans h)
set_option maxHeartbeats 4000000 in
set_option maxRecDepth 100000 in
theorem stone_Plan.calls (a0_0 : Int) (a0_1 : Int) (a0_2 : Int) (a0_3 : Int) (A0_4 : Option Addr) (c0_4 : Nat) (l0_4 : List (S73)) (r1 : List Int) (r2 : Int) (w : World) (hr0_4 : Kd.C k73 w A0_4 l0_4.length l0_4) (hc0_4 : l0_4.length ≤ c0_4) (h : stone_Plan.f a0_0 a0_1 a0_2 a0_3 l0_4 = some (r1, r2)) :
    Calls Try.prog 25 #[.agg #[.int .i64 a0_0, .int .i64 a0_1, .int .i64 a0_2, .int .i64 a0_3, .slice A0_4 l0_4.length c0_4]] w fun e w' => ∃ v0_ : Value, e = .returned (.tuple #[v0_, .int .i64 r2]) ∧ Kd.R (Kd.int .i64) 3 w' w.heap.size (fun _ => True) v0_ r1 ∧ Below w.heap.size w w' := by
  have HR := Aside0.mk hr0_4
  have HF := Aside0.mk h
  have HB := Aside0.mk (hb1 w (.cells #[.int .i64 a0_0, .int .i64 a0_1, .int .i64 a0_2, .int .i64 a0_3, .slice A0_4 l0_4.length c0_4] 24))
  have K := Aside0.mk (new_blk w (.cells #[.int .i64 a0_0, .int .i64 a0_1, .int .i64 a0_2, .int .i64 a0_3, .slice A0_4 l0_4.length c0_4] 24))
  clear hr0_4 h
  go_enter Try.func25, Try.ntmps25
  go_wp2_with fail
  with_reducible refine (planned56 a0_0 a0_1 a0_2 a0_3 A0_4 c0_4 l0_4 _ (by exact Kd.C_below HR.out HB.out) hc0_4).mono ?_
  rintro e w1 ⟨(⟨he, rfl⟩ | ⟨he, g, T, rfl, hbn, ht, hT⟩), hb⟩
  · have HE := Aside0.mk he
    have h1 : (plannedF a0_0 a0_1 a0_2 a0_3 l0_4 == 0) = false := by simpa using he
    have h2 : (plannedF a0_0 a0_1 a0_2 a0_3 l0_4 != 0) = true := by simpa using he
    clear he
    go_wp2
    go_ret2
    obtain ⟨rfl, rfl⟩ : [] = r1 ∧ plannedF a0_0 a0_1 a0_2 a0_3 l0_4 = r2 := by have := HF.out; simpa [stone_Plan.f, HE.out] using this
    exact ⟨_, rfl, Kd.R_nil _ _ _ _ _, below_step (below_step HB.out hb) (hb1 _ _)⟩
  · have HG := (planned_good he).1
    have HSF := Aside0.mk (planned_good he).2
    have hn := HG.n2
    have HGG := Aside0.mk HG
    have HE := Aside0.mk he
    obtain ⟨row, hrow⟩ : ∃ row, Aside0 (rowAt ⟨a0_0, a0_1, a0_2, a0_3, l0_4, 0⟩ l0_4 = row) := ⟨_, ⟨rfl⟩⟩
    have hrl2 : row.length = 42 := by rw [← hrow.out]; exact rowAt_length _ _
    have hrow1 : Aside0 ((List.range 42).map (tvF ⟨a0_0, a0_1, a0_2, a0_3, l0_4, 0⟩ 0) = row) := ⟨by rw [← hrow.out]; exact row_list (rowAt_length _ _)⟩
    have HT := Aside0.mk ht
    have HBN := Aside0.mk hbn
    have HB1 := Aside0.mk (below_step HB.out hb)
    have K1 := Aside0.mk (blk_below K.out hb)
    obtain ⟨bz, hbz⟩ : ∃ bz, Aside0 (decide (row = List.replicate 42 0) = bz) := ⟨_, ⟨rfl⟩⟩
    have heq := fun W => equalIn_row row hrl2 W
    rw [hbz.out] at heq
    have hmk := print_make (P := Try.prog) 25 3 .i64 8 Try.underlying25 info3 (by decide) l0_4.length (by omega)
    obtain ⟨d0, d1, d2, d3, d4⟩ := blk5 K1.out
    have z1 := blk_lt K1.out
    have z2 := ht.lt
    clear HG he hbn ht hb hT
    have HTa : Aside0 (TabB (w1.alloc (.cells #[.slice (some ⟨T, 0, none⟩) (l0_4.length + 1) (l0_4.length + 1)] 81)) T (l0_4.length + 1) (tvF ⟨a0_0, a0_1, a0_2, a0_3, l0_4, 0⟩)) := ⟨HT.out.below (hb1 _ _)⟩
    cases bz with
    | true =>
      go_wp2_with (refine law_load_row (T := T) (m := l0_4.length + 1) (i := 0) rfl _ rfl rfl HTa.out (by omega) hrow1.out ?_)
      go_ret2
      have hnb := hb1 w1 (.cells #[.slice (some ⟨T, 0, none⟩) (l0_4.length + 1) (l0_4.length + 1)] 81)
      have hz : row = List.replicate 42 0 := of_decide_eq_true hbz.out
      obtain ⟨rfl, rfl⟩ : List.replicate l0_4.length 0 = r1 ∧ 0 = r2 := by
        have h := HF.out
        unfold stone_Plan.f at h
        rw [if_pos HE.out, hrow.out, if_pos hz] at h
        simpa [-List.reduceReplicate] using h
      exact ⟨_, rfl, R_made .i64 3 _ _ _ (below_step HB1.out hnb).size (by omega) (by simp), below_step (below_step HB1.out hnb) (hb1 _ _)⟩
    | false =>
      have hbn4 := HGG.out.s0
      have hbn5 := HGG.out.sl
      have hrooms : Aside0 (∀ h, h ∈ l0_4 → h.f0.f1 ≤ a0_1) := ⟨rest_rooms (b := ⟨a0_0, a0_1, a0_2, a0_3, l0_4, 0⟩) rfl l0_4 a0_0 (fun h hh => by have := HGG.out.hs h hh; omega) HSF.out⟩
      have hnb := hb1 w1 (.cells #[.slice (some ⟨T, 0, none⟩) (l0_4.length + 1) (l0_4.length + 1)] 81)
      have HB2 := Aside0.mk (below_step HB1.out hnb)
      have HBN2 := Aside0.mk (HBN.out.below hnb)
      have K2 := Aside0.mk (blk_below K1.out hnb)
      have KT2 := Aside0.mk (new_blk w1 (.cells #[.slice (some ⟨T, 0, none⟩) (l0_4.length + 1) (l0_4.length + 1)] 81))
      go_wp2_with (refine law_load_row (T := T) (m := l0_4.length + 1) (i := 0) rfl _ rfl rfl HTa.out (by omega) hrow1.out ?_)
      go_loopw [7, 8, 34] (fun v hv i wr => ∃ (k : Nat) (heat : Int) (xs : List Int), k ≤ l0_4.length ∧ i = .int .i64 k ∧ hv = .int .i64 heat ∧ 0 ≤ heat ∧ heat ≤ a0_1 ∧ Aside0 (xs.length = k) ∧ Aside0 (xs ++ greedyF ⟨a0_0, a0_1, a0_2, a0_3, l0_4, 0⟩ (l0_4.drop k) k heat = greedyF ⟨a0_0, a0_1, a0_2, a0_3, l0_4, 0⟩ l0_4 0 a0_0) ∧ Aside0 (Kd.R (Kd.int .i64) 3 wr w.heap.size (fun _ => True) v xs) ∧ Aside0 (TabB wr T (l0_4.length + 1) (tvF ⟨a0_0, a0_1, a0_2, a0_3, l0_4, 0⟩)) ∧ Aside0 (wr.heap[w1.heap.size]? = some (.cells #[.slice (some ⟨T, 0, none⟩) (l0_4.length + 1) (l0_4.length + 1)] 81 (0, 0))) ∧ Aside0 (BenchAt wr g ⟨a0_0, a0_1, a0_2, a0_3, l0_4, 0⟩ A0_4 c0_4) ∧ Aside0 (wr.heap[w.heap.size]? = some (.cells #[.int .i64 a0_0, .int .i64 a0_1, .int .i64 a0_2, .int .i64 a0_3, .slice A0_4 l0_4.length c0_4] 24 (0, 0))) ∧ Aside0 (Below w.heap.size w wr)) (fun _ _ i _ => l0_4.length - (intOf i).toNat)
      case atStart => exact ⟨0, a0_0, [], Nat.zero_le _, rfl, rfl, hbn4, hbn5, ⟨rfl⟩, ⟨by simp⟩, ⟨Kd.R_nil _ _ _ _ _⟩, HTa, KT2, HBN2, K2, HB2⟩
      case round =>
        clear HTa KT2 HBN2 K2 HB2 HBN HB1 K1 HT d0 d1 d2 d3 d4 z1 z2 hnb heq hmk
        obtain ⟨k, heat, xs, hk, rfl, rfl, hh0, hh1, HX, HE2, HO, HT, KT, HBN, K1, HB1⟩ := hrel
        by_cases hlt : k < l0_4.length
        · obtain ⟨c0, c1, c2, c3, c4, c5⟩ := blk6 HBN.out.blk
          have z0 := blk_lt HBN.out.blk
          have kt0 := blk1 KT.out
          have z3 := blk_lt KT.out
          clear c0 c2 c3 c4 c5
          go_upto_region 11 with fail
          obtain ⟨h, hh⟩ : ∃ h, l0_4[k]? = some h := ⟨_, List.getElem?_eq_getElem hlt⟩
          obtain ⟨ss, hss, hss1⟩ := steps_cons (good_bench HGG.out) hh0 hh1 (hrooms.out h (List.mem_of_getElem? hh))
          obtain ⟨W2, hW2⟩ : ∃ W2, wr.alloc (.cells #[.int .i64 k] 3) = W2 := ⟨_, rfl⟩
          have hnw : Below wr.heap.size wr W2 := by rw [← hW2]; exact hb1 _ _
          have ki : Aside0 (W2.heap[wr.heap.size]? = some (.cells #[.int .i64 k] 3 (0, 0))) := ⟨by rw [← hW2]; exact new_blk _ _⟩
          have HNW := Aside0.mk hnw
          have HBNw := Aside0.mk (HBN.out.below hnw)
          have HTw := Aside0.mk (HT.out.below hnw)
          have KTw := Aside0.mk (blk_below KT.out hnw)
          rw [hW2]
          have e1 := blk1 ki.out
          have e2 : W2.cell? ⟨g, 1, none⟩ = some (.int .i64 a0_1) := pw_cell_below hnw c1
          have z4 := blk_lt ki.out
          have z5 := Nat.lt_of_lt_of_le z0 hnw.size
          have hcall59 : ∀ w2, Below W2.heap.size W2 w2 → Calls Try.prog 59 #[.pointer (some ⟨g, 0, none⟩), .agg #[.int .i64 k, .int .i64 heat], .int .i64 a0_1] w2 fun e w' => ∃ b1 : Nat, e = .returned (.func (.func 80) #[] #[.pointer (some ⟨b1, 0, none⟩), .pointer (some ⟨b1 + 1, 0, none⟩), .pointer (some ⟨b1 + 2, 0, none⟩)]) ∧ Aside0 (Boxes w' b1 g k heat a0_1) ∧ Aside0 (Below W2.heap.size W2 w') ∧ Below w2.heap.size w2 w' := fun w2 hb => by
            refine (steps59 g k heat a0_1 w2).mono ?_
            rintro e w' ⟨rfl, h1, h2, _⟩
            exact ⟨_, rfl, ⟨h1⟩, ⟨below_step hb h2⟩, h2⟩
          have hcall58 : ∀ (b1 : Nat) w2, Below W2.heap.size W2 w2 → Boxes w2 b1 g k heat a0_1 → Calls Try.prog 58 #[.func (.func 80) #[] #[.pointer (some ⟨b1, 0, none⟩), .pointer (some ⟨b1 + 1, 0, none⟩), .pointer (some ⟨b1 + 2, 0, none⟩)]] w2 fun e w' => ∃ A n c, e = .returned (.slice A n c) ∧ Aside0 (Kd.C kSt w' A n (stepF ⟨a0_0, a0_1, a0_2, a0_3, l0_4, 0⟩ h heat 0 :: ss) ∧ n ≤ c) ∧ Aside0 (Below W2.heap.size W2 w') ∧ Below w2.heap.size w2 w' := fun b1 w2 hb hx => by
            have hs80 := steps80 b1 g ⟨a0_0, a0_1, a0_2, a0_3, l0_4, 0⟩ A0_4 c0_4 k heat a0_1 h w2 hh (HBNw.out.below hb) hx
            rw [hss] at hs80
            refine (collect58 _ _ _ (by simp; omega) w2 hs80 steps_enter).mono ?_
            rintro e w' ⟨v, rfl, h1, h2⟩
            obtain ⟨A, c, rfl, hl, hC⟩ := Kd.R_reads h1
            exact ⟨A, _, c, rfl, ⟨hC, hl⟩, ⟨below_step hb h2⟩, h2⟩
          have hfit := step_fit (good_bench HGG.out) (List.mem_of_getElem? hh) hh0 (by have := HGG.out.l4; omega) (show a0_1 ≤ 41 by have := HGG.out.l4; omega)
          rw [hss] at hfit
          have hcall57 : ∀ (A : Option Addr) (n c : Nat) w2, Below W2.heap.size W2 w2 → Kd.C kSt w2 A n (stepF ⟨a0_0, a0_1, a0_2, a0_3, l0_4, 0⟩ h heat 0 :: ss) → n ≤ c → Calls Try.prog 57 #[.slice A n c, .func (.func 60) #[] #[.pointer (some ⟨w1.heap.size, 0, none⟩), .pointer (some ⟨wr.heap.size, 0, none⟩)]] w2 fun e w' => e = .returned (bestF (betterF (tvF ⟨a0_0, a0_1, a0_2, a0_3, l0_4, 0⟩) k) (stepF ⟨a0_0, a0_1, a0_2, a0_3, l0_4, 0⟩ h heat 0) ss).v ∧ Aside0 (Below W2.heap.size W2 w') ∧ Below w2.heap.size w2 w' := fun A n c w2 hb hC hc => by
            refine (best57 _ _ _ A n c _ ss (by omega) w2 hC hc fitS ?_ ?_ (better60 w1.heap.size wr.heap.size T (l0_4.length + 1) k _ (l0_4.length + 1) w2 (by omega) (by omega) (HTw.out.below hb).at_ (blk_below KTw.out hb) (blk_below ki.out hb)) better_enter).mono ?_
            · have := hfit _ List.mem_cons_self
              exact ⟨this.1, this.2.2⟩
            · intro x hx
              have := hfit x (List.mem_cons_of_mem _ hx)
              exact ⟨this.1, this.2.2⟩
            · rintro e w' ⟨rfl, h2⟩
              exact ⟨rfl, ⟨below_step hb h2⟩, h2⟩
          obtain ⟨bs, hbs⟩ : ∃ bs, Aside0 (bestF (betterF (tvF ⟨a0_0, a0_1, a0_2, a0_3, l0_4, 0⟩) k) (stepF ⟨a0_0, a0_1, a0_2, a0_3, l0_4, 0⟩ h heat 0) ss = bs) := ⟨_, ⟨rfl⟩⟩
          rw [hbs.out] at hcall57
          have q0 : ∀ w2, Aside0 (Below W2.heap.size W2 w2) → Below W2.heap.size W2 w2 := fun _ h => h.out
          have q1 : ∀ w2 o, Aside0 (Below W2.heap.size W2 w2) → Below W2.heap.size W2 (w2.alloc o) := fun _ _ h => below_step h.out (hb1 _ _)
          have q5 : ∀ (w2 : World) (B : Nat) (x y z : Value), Aside0 (Below W2.heap.size W2 w2) → W2.heap.size ≤ B → (((w2.setCell ⟨B, 0, none⟩ x).setCell ⟨B, 1, none⟩ y).setCell ⟨B, 2, none⟩ z).cell? ⟨wr.heap.size, 0, none⟩ = some (.int .i64 k) ∧ (((w2.setCell ⟨B, 0, none⟩ x).setCell ⟨B, 1, none⟩ y).setCell ⟨B, 2, none⟩ z).cell? ⟨g, 1, none⟩ = some (.int .i64 a0_1) ∧ Aside0 (Below W2.heap.size W2 (((w2.setCell ⟨B, 0, none⟩ x).setCell ⟨B, 1, none⟩ y).setCell ⟨B, 2, none⟩ z)) := fun w2 B x y z h hB => by
            have hb := below3_set h.out hB x y z
            exact ⟨pw_cell_below hb e1, pw_cell_below hb e2, ⟨hb⟩⟩
          have q2 : Below W2.heap.size W2 W2.drew := below_drew1 (Below.refl _ _)
          have q3 : ∀ o, Below W2.heap.size W2 (W2.alloc o).drew := fun o => below_drew1 (hb1 _ _)
          simp only [St.v] at hcall57
          clear c1 hnw hbn4 hbn5 hW2
          go_cut [10] (fun v wc => ∃ B : Nat, v = .pointer (some ⟨B, 0, none⟩) ∧ Aside0 (wr.heap.size ≤ B) ∧ Aside0 (wc.heap[B]? = some (.cells #[.int .i64 bs.g, .int .i64 bs.p, .int .i64 bs.h] 87 (0, 0))) ∧ Aside0 (Below W2.heap.size W2 wc))
          case first =>
            go_region_held3 (fun W => W.cell? ⟨wr.heap.size, 0, none⟩ = some (.int .i64 k) ∧ W.cell? ⟨g, 1, none⟩ = some (.int .i64 a0_1) ∧ Aside0 (Below W2.heap.size W2 W))
              (first | (with_reducible (first | exact ⟨pw_cell_below q2 e1, pw_cell_below q2 e2, ⟨q2⟩⟩ | exact ⟨pw_cell_below (q3 _) e1, pw_cell_below (q3 _) e2, ⟨q3 _⟩⟩ | exact ⟨pw_cell_below HC57.out e1, pw_cell_below HC57.out e2, HC57⟩ | exact ⟨pw_cell_below (q1 _ _ HC57) e1, pw_cell_below (q1 _ _ HC57) e2, ⟨q1 _ _ HC57⟩⟩ | exact q5 _ _ _ _ _ HC57 (Nat.le_refl _) | exact q5 _ _ _ _ _ HC57 HC58.out.size | exact q5 _ _ _ _ _ HC57 HC59.out.size | exact ⟨pw_cell_below HC58.out e1, pw_cell_below HC58.out e2, HC58⟩ | exact ⟨pw_cell_below (q1 _ _ HC58) e1, pw_cell_below (q1 _ _ HC58) e2, ⟨q1 _ _ HC58⟩⟩ | exact ⟨pw_cell_below HC59.out e1, pw_cell_below HC59.out e2, HC59⟩ | exact ⟨pw_cell_below (q1 _ _ HC59) e1, pw_cell_below (q1 _ _ HC59) e2, ⟨q1 _ _ HC59⟩⟩)) | exact ⟨pw_cell_below (q3 _) e1, pw_cell_below (q3 _) e2, ⟨q3 _⟩⟩)
              (first
                | (go_at_call 59; refine (hcall59 _ (by first | exact q2 | exact q3 _)).mono ?_; rintro e w3 ⟨b1, rfl, HX59, HC59, hb59⟩; (first | ((with_reducible have ZZ := Aside0.mk (alloc_keptd hb59)); clear hb59) | clear hb59))
                | (go_at_call 58; refine (hcall58 _ _ (by first | exact q0 _ HC59 | exact q1 _ _ HC59) (by first | exact HX59.out | exact HX59.out.below (hb1 _ _))).mono ?_; rintro e w4 ⟨A4, n4, c4, rfl, HX58, HC58, hb58⟩; (first | (replace ZZ := Aside0.mk (blk_below ZZ.out hb58); clear hb58) | ((with_reducible have ZZ := Aside0.mk (alloc_kept hb58)); clear hb58) | clear hb58))
                | (go_at_call 57; refine (hcall57 _ _ _ _ (by first | exact q0 _ HC58 | exact q1 _ _ HC58) (by first | exact HX58.out.1 | exact Kd.C_below HX58.out.1 (hb1 _ _)) HX58.out.2).mono ?_; rintro e w5 ⟨rfl, HC57, hb57⟩; (first | (replace ZZ := Aside0.mk (blk_below ZZ.out hb57); clear hb57) | ((with_reducible have ZZ := Aside0.mk (alloc_kept hb57)); clear hb57) | clear hb57); (first | (obtain ⟨m0, m1, m2⟩ := blk3 ZZ.out; have mf := blk_frozen ZZ.out; have ml := blk_lt ZZ.out) | skip)))
            all_goals
              go_wp2_with fail
              go_meet
              with_reducible first
                | exact ⟨_, rfl, ⟨Nat.le_trans HNW.out.size HC57.out.size⟩, ⟨new_blk _ _⟩, ⟨below_step HC57.out (hb1 _ _)⟩⟩
                | exact ⟨_, rfl, ⟨HNW.out.size⟩, ⟨blk3_set _ _ _ ZZ.out⟩, ⟨below3_set HC57.out (Nat.le_refl _) _ _ _⟩⟩
                | exact ⟨_, rfl, ⟨Nat.le_trans HNW.out.size HC58.out.size⟩, ⟨blk3_set _ _ _ ZZ.out⟩, ⟨below3_set HC57.out HC58.out.size _ _ _⟩⟩
                | exact ⟨_, rfl, ⟨Nat.le_trans HNW.out.size HC59.out.size⟩, ⟨blk3_set _ _ _ ZZ.out⟩, ⟨below3_set HC57.out HC59.out.size _ _ _⟩⟩
          case rest =>
            obtain ⟨B, rfl, HBB, HS, HC⟩ := hcut
            obtain ⟨A7, c7, rfl, hl7, hC7⟩ := Kd.R_reads HO.out
            have HBW := Aside0.mk (below_step HNW.out HC.out)
            have HOd : Aside0 (Kd.R (Kd.int .i64) 3 wc.drew w.heap.size (fun _ => True) (.slice A7 k c7) xs) := ⟨by have h := Kd.R_drew (Kd.R_below HO.out HBW.out); rwa [HX.out] at h⟩
            have HL7 := Aside0.mk hl7
            have HKI := Aside0.mk (blk_below ki.out HC.out)
            have HSZ := Aside0.mk (below_step HB1.out HBW.out).size
            obtain ⟨i0, hi, _⟩ := Option.map_eq_some_iff.1 info3
            have hsl := run_slice_full (P := Try.prog) 25 3 Try.underlying25 hi A7 xs.length c7 k (by have := HX.out; omega)
            clear hl7 hC7 hi q0 q1 q2 q3 q5 hcall57 hcall58 hcall59 e1 e2 z4 z5 z3 z0 kt0
            rw [HX.out] at hsl ⊢
            have g0 := blk1 HKI.out
            obtain ⟨f0, f1, f2⟩ := blk3 HS.out
            have z4 := blk_lt HKI.out
            have z5 := blk_lt HS.out
            have q6 : ∀ o, Below wc.heap.size wc (wc.alloc o).drew := fun o => below_drew1 (hb1 wc o)
            have q7 : Below wc.heap.size wc wc.drew := below_drew1 (Below.refl _ _)
            go_upto_region 12 with fail
            go_region_held3 (fun W => W.cell? ⟨wr.heap.size, 0, none⟩ = some (.int .i64 k) ∧ W.cell? ⟨B, 0, none⟩ = some (.int .i64 bs.g) ∧ W.cell? ⟨B, 2, none⟩ = some (.int .i64 bs.h))
              (first | (with_reducible exact ⟨pw_cell_below q7 g0, pw_cell_below q7 f0, pw_cell_below q7 f2⟩) | (with_reducible exact ⟨pw_cell_below (q6 _) g0, pw_cell_below (q6 _) f0, pw_cell_below (q6 _) f2⟩) | exact ⟨pw_cell_below HG8.out g0, pw_cell_below HG8.out f0, pw_cell_below HG8.out f2⟩)
              ((refine R_append_full_step (W := wc.drew) (Kd.int .i64) w.heap.size (by rfl) _ _ 25 3 (.int .i64 0) 8 (by rfl) Try.underlying25 info3 rfl (by decide) (by omega) A7 k c7 xs bs.g [.int .i64 bs.g] (fun _ => True) (fun _ => False) (by rfl) (by rfl) (by rfl) rfl (fun _ hk => hk.elim) (fun _ _ => trivial) HOd.out HSZ.out (by have := HX.out; omega) ?_; intro v8 w8 ho8 hg8; have HO8 := Aside0.mk ho8; have HG8 := Aside0.mk ((below_drew1 (Below.refl wc.heap.size wc)).trans (below_of_grown hg8)); clear ho8 hg8))
            have HB8 := Aside0.mk (below_step HBW.out HG8.out)
            have hmem : bs ∈ stepF ⟨a0_0, a0_1, a0_2, a0_3, l0_4, 0⟩ h heat 0 :: ss := by
              rcases best_mem (betterF (tvF ⟨a0_0, a0_1, a0_2, a0_3, l0_4, 0⟩) k) ss (stepF ⟨a0_0, a0_1, a0_2, a0_3, l0_4, 0⟩ h heat 0) with e | e
              · rw [hbs.out] at e; rw [e]; exact List.mem_cons_self
              · rw [hbs.out] at e; exact List.mem_cons_of_mem _ e
            have hin := hfit bs hmem
            have hin0 := hin.1
            have hin1 := hin.2.1
            have hdr := drop_cons hh
            have HE3 : Aside0 (xs ++ [bs.g] ++ greedyF ⟨a0_0, a0_1, a0_2, a0_3, l0_4, 0⟩ (l0_4.drop (k + 1)) (k + 1) bs.h = greedyF ⟨a0_0, a0_1, a0_2, a0_3, l0_4, 0⟩ l0_4 0 a0_0) := ⟨by
              rw [← HE2.out, hdr, List.append_assoc]
              congr 1
              simp only [greedyF]
              rw [hss]
              simp only [hbs.out, List.singleton_append]⟩
            clear hin hdr hss hsl hfit hmem
            go_wp2
            go_roundw
            case rel => exact ⟨k + 1, bs.h, xs ++ [bs.g], by omega, by go_num, rfl, hin0, hin1, ⟨by simp [HX.out]⟩, HE3, HO8, ⟨HT.out.below HB8.out⟩, ⟨blk_below KT.out HB8.out⟩, ⟨HBN.out.below HB8.out⟩, ⟨blk_below K1.out HB8.out⟩, ⟨below_step HB1.out HB8.out⟩⟩
            case measure => simp [intOf]; omega
        · have hkn : Aside0 (k = l0_4.length) := ⟨by omega⟩
          go_wp2
          go_ret2
          have hz : ¬ row = List.replicate 42 0 := of_decide_eq_false hbz.out
          obtain ⟨rfl, rfl⟩ : greedyF ⟨a0_0, a0_1, a0_2, a0_3, l0_4, 0⟩ l0_4 0 a0_0 = r1 ∧ 0 = r2 := by
            have h := HF.out
            unfold stone_Plan.f at h
            rw [if_pos HE.out, hrow.out, if_neg hz] at h
            simpa using h
          refine ⟨_, rfl, ?_, HB1.out⟩
          have h := HE2.out
          rw [hkn.out, List.drop_length] at h
          rw [← h]
          simpa [greedyF] using HO.out
end Go.Proofs.Ytpoopogojocolaa.P
