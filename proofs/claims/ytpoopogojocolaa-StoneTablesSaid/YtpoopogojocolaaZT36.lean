/- The contract of stone's Table. -/
import Derived.Deep.WholeRow
import Derived.Test.YtpoopogojocolaaZT35
import Derived.Test.YtpoopogojocolaaZT13
namespace Go.Proofs.Ytpoopogojocolaa.P
open Go.RowKit Go.Shelf Go.Proofs.YtpoopogojocolaaW.PrintWords Go.Proofs.YtpoopogojocolaaW.PrintLast Go.Proofs.YtpoopogojocolaaW.PrintMore
attribute [local go_sem] max2_mx min2_mn max_two min_two
set_option linter.unusedVariables false
set_option linter.unusedSimpArgs false
theorem law_store_run {P : Program} {ops : Array Oper} {rest : List Oper} {o : Oper} {a : Act} {Q : Exit → Act → World → Prop} {W W' : World} (hgd : o.guard = none) (hd : o.dst = none) (t : TypeId) (p x : Operand) (ho : o.op = .store t p x) {pv xv : Value} (hp : a.eval p = pv) (hx : a.eval x = xv) (hrun : (Instr.storeAt t pv xv).run P W = .ok () W')
    (hK : wpList P ops Q rest a W') : wpList P ops Q (o :: rest) a W :=
  wpList_plain hgd fun _ hK' => by
    unfold Oper.wp execOp
    simp only [ho, hp, hx, Sem.run_bind, Sem.run_pure, Result.andThen_ok, hrun]
    refine hK' _ _ ?_
    rw [hd]
    exact hK
def stone_Table.f (a0_0 a0_1 a0_2 a0_3 : Int) (l0_4 : List S73) : Option (List (List Int) × Int) :=
  some (if plannedF a0_0 a0_1 a0_2 a0_3 l0_4 = 0 then ((List.range (l0_4.length + 1)).map (fun i => (rowAt ⟨a0_0, a0_1, a0_2, a0_3, l0_4, 0⟩ (l0_4.drop i)).take (a0_1.toNat + 1)), 0) else ([], plannedF a0_0 a0_1 a0_2 a0_3 l0_4))
set_option maxHeartbeats 4000000 in
set_option maxRecDepth 100000 in
theorem stone_Table.calls (a0_0 : Int) (a0_1 : Int) (a0_2 : Int) (a0_3 : Int) (A0_4 : Option Addr) (c0_4 : Nat) (l0_4 : List (S73)) (r1 : List (List Int)) (r2 : Int) (w : World) (hr0_4 : Kd.C k73 w A0_4 l0_4.length l0_4) (hc0_4 : l0_4.length ≤ c0_4) (h : stone_Table.f a0_0 a0_1 a0_2 a0_3 l0_4 = some (r1, r2)) :
    Calls Try.prog 38 #[.agg #[.int .i64 a0_0, .int .i64 a0_1, .int .i64 a0_2, .int .i64 a0_3, .slice A0_4 l0_4.length c0_4]] w fun e w' => ∃ v0_ : Value, e = .returned (.tuple #[v0_, .int .i64 r2]) ∧ Kd.S (Kd.slice 2 (Kd.int .i64)) 31 w' w.heap.size (fun _ => True) v0_ r1 ∧ Below w.heap.size w w' := by
  have HR := Aside0.mk hr0_4
  have HF := Aside0.mk h
  have HB := Aside0.mk (hb1 w (.cells #[.int .i64 a0_0, .int .i64 a0_1, .int .i64 a0_2, .int .i64 a0_3, .slice A0_4 l0_4.length c0_4] 24))
  have K := Aside0.mk (new_blk w (.cells #[.int .i64 a0_0, .int .i64 a0_1, .int .i64 a0_2, .int .i64 a0_3, .slice A0_4 l0_4.length c0_4] 24))
  clear hr0_4 h
  go_enter Try.func38, Try.ntmps38
  go_wp2_with fail
  with_reducible refine (planned56 a0_0 a0_1 a0_2 a0_3 A0_4 c0_4 l0_4 _ (by exact Kd.C_below HR.out HB.out) hc0_4).mono ?_
  rintro e w1 ⟨(⟨he, rfl⟩ | ⟨he, g, T, rfl, hbn, ht, hT⟩), hb⟩
  · have HE := Aside0.mk he
    have h1 : (plannedF a0_0 a0_1 a0_2 a0_3 l0_4 == 0) = false := by simpa using he
    have h2 : (plannedF a0_0 a0_1 a0_2 a0_3 l0_4 != 0) = true := by simpa using he
    clear he
    go_wp2
    go_ret2
    obtain ⟨rfl, rfl⟩ : [] = r1 ∧ plannedF a0_0 a0_1 a0_2 a0_3 l0_4 = r2 := by have := HF.out; simpa [stone_Table.f, HE.out] using this
    exact ⟨_, rfl, Kd.S_nil _ _ _ _ _, below_step HB.out hb⟩
  · have HG := (planned_good he).1
    have hn := HG.n2
    obtain ⟨L, hL⟩ := Int.eq_ofNat_of_zero_le (show 0 ≤ a0_1 by have := HG.s0; have := HG.sl; omega)
    subst hL
    have hL4 := HG.l4
    have HE := Aside0.mk he
    obtain ⟨rows, hrows⟩ : ∃ rows, Aside0 ((List.range (l0_4.length + 1)).map (fun i => (rowAt ⟨a0_0, L, a0_2, a0_3, l0_4, 0⟩ (l0_4.drop i)).take (L + 1)) = rows) := ⟨_, ⟨rfl⟩⟩
    have hrl : rows.length = l0_4.length + 1 := by rw [← hrows.out]; simp
    have HT := Aside0.mk ht
    have HB1 := Aside0.mk (below_step HB.out hb)
    have K1 := Aside0.mk (blk_below K.out hb)
    clear HG he hbn ht hb hT
    go_wp2
    go_loopw [7, 21] (fun v i wr => ∃ k : Nat, k ≤ l0_4.length + 1 ∧ i = .int .i64 k ∧ Aside0 (Kd.S (Kd.slice 2 (Kd.int .i64)) 31 wr w.heap.size (fun _ => True) v (rows.take k)) ∧ Aside0 (TabB wr T (l0_4.length + 1) (tvF ⟨a0_0, L, a0_2, a0_3, l0_4, 0⟩)) ∧ Aside0 (wr.heap[w.heap.size]? = some (.cells #[.int .i64 a0_0, .int .i64 L, .int .i64 a0_2, .int .i64 a0_3, .slice A0_4 l0_4.length c0_4] 24 (0, 0))) ∧ Aside0 (Below w.heap.size w wr)) (fun _ i _ => l0_4.length + 1 - (intOf i).toNat)
    case atStart => exact ⟨0, Nat.zero_le _, rfl, ⟨Kd.S_nil _ _ _ _ _⟩, HT, K1, HB1⟩
    case round =>
      clear HT K1 HB1
      obtain ⟨k, hk, rfl, HS, HT, K1, HB1⟩ := hrel
      obtain ⟨d0, d1, d2, d3, d4⟩ := blk5 K1.out
      have z1 := blk_lt K1.out
      by_cases hlt : k < l0_4.length + 1
      · obtain ⟨row, hrow⟩ : ∃ row, Aside0 (rowAt ⟨a0_0, L, a0_2, a0_3, l0_4, 0⟩ (l0_4.drop k) = row) := ⟨_, ⟨rfl⟩⟩
        have hrl2 : row.length = 42 := by rw [← hrow.out]; exact rowAt_length _ _
        have hrow1 : Aside0 ((List.range 42).map (tvF ⟨a0_0, L, a0_2, a0_3, l0_4, 0⟩ k) = row) := ⟨by rw [← hrow.out]; exact row_list (rowAt_length _ _)⟩
        have hst := run_storeAt_new (P := Try.prog) wr 85 (Array.replicate 42 (.int .i64 0)) (row.map (Value.int .i64)).toArray (by
          obtain ⟨i0, hi0, hz⟩ := Option.map_eq_some_iff.1 infoW
          simp only [Prod.mk.injEq] at hz
          simp [hi0, hz.2.1, hrl2]) (by simp [hrl2]) (by simp [Value.oneCell'])
        have y1 : (0 : Int) ≤ (L : Int) + 1 := by omega
        have y2 : (L : Int) + 1 ≤ 42 := by omega
        have y3 : ¬ ((42 : Int) < (L : Int) + 1) := by omega
        have y4 : ¬ ((L : Int) + 1 < 0) := by omega
        have y5 : ((L : Int) + 1).toNat = L + 1 := by omega
        go_wp2_with (first | (refine law_load_row (T := T) (m := l0_4.length + 1) (i := k) rfl _ rfl rfl HT.out (by omega) hrow1.out ?_) | (refine law_store_run rfl rfl _ _ _ rfl rfl rfl hst ?_))
        have hC : Kd.C (Kd.int .i64) (wr.alloc (.cells (row.map (Value.int .i64)).toArray 85)) (some ⟨wr.heap.size, 0, none⟩) (L + 1) (row.take (L + 1)) := by
          have hlen : (row.take (L + 1)).length = L + 1 := by rw [List.length_take]; omega
          have h0 := C_of_cells (enc := Value.int .i64) (h1 := fun _ => rfl) (0 : Int) (W := wr.alloc (.cells (row.map (Value.int .i64)).toArray 85)) (g := wr.heap.size) (o := 0) (xs := row.take (L + 1)) (by omega) (fun j x hj => by
            have hj2 : row[j]? = some x := by
              rw [List.getElem?_take] at hj
              split at hj
              · exact hj
              · cases hj
            rw [Nat.zero_add, cell_of_row _ _ _ _ _ _ (new_blk wr _)]
            simp [hj2])
          rw [hlen] at h0
          exact h0
        have hnb := hb1 wr (.cells (row.map (Value.int .i64)).toArray 85)
        have HS3 := Aside0.mk (Kd.S_below HS.out hnb)
        have HB3 := Aside0.mk (below_step HB1.out hnb)
        have HT3 := Aside0.mk (HT.out.below hnb)
        have HK3 := Aside0.mk (blk_below K1.out hnb)
        obtain ⟨Wc, hWc⟩ : ∃ Wc, wr.alloc (.cells (row.map (Value.int .i64)).toArray 85) = Wc := ⟨_, rfl⟩
        rw [hWc] at hC HS3 HB3 HT3 HK3 ⊢
        refine (clone70 ⟨wr.heap.size, 0, none⟩ (L + 1) 42 (row.take (L + 1)) Wc hC (by omega)).mono ?_
        rintro e w4 ⟨v4, rfl, ho4, hb4⟩
        have HS4 := Aside0.mk (Kd.S_elder' HS3.out (Kd.R_base ho4) hb4)
        have hlow := Kd.R_lower ho4 HB3.out.size
        obtain ⟨Ao, co, hv4⟩ := Kd.R_slice hlow
        have hlen : (row.take (L + 1)).length = L + 1 := by rw [List.length_take]; omega
        rw [hlen] at hv4
        subst hv4
        have HO4 := Aside0.mk hlow
        have HAp := Aside0.mk (Kd.R_mono (ok' := fun k_ => True ∧ some k_ ≠ (u7 : Value).ownBlock) (Kd.R_apart' HO4.out (Kd.S_typed HS4.out) (by decide)) (fun k_ hk => ⟨trivial, hk.2⟩))
        have HB4 := Aside0.mk (below_step HB3.out hb4)
        have HT4 := Aside0.mk (HT3.out.below hb4)
        have HK4 := Aside0.mk (blk_below HK3.out hb4)
        have hty := Aside0.mk (Kd.S_typed HS4.out)
        clear ho4 hb4 hlow hC hnb hWc HS3 HB3 HT3 HK3 HS HT K1 HB1 hst d0 d1 d2 d3 d4 z1
        have htk : rows.take (k + 1) = rows.take k ++ [row.take (L + 1)] := take_snoc' (by rw [← hrows.out, List.getElem?_map, List.getElem?_range hlt, ← hrow.out]; rfl)
        go_wp2_with (at_builtin; refine Kd.S_append (Kd.slice 2 (Kd.int .i64)) (w0 := w) w.heap.size rfl _ _ 51 31 (.slice none 0 0) 24 rfl Try.underlying51 info31 rfl (by decide) (by omega) u7 (rows.take k) (row.take (L + 1)) [.slice Ao (L + 1) co] (fun _ => True) (fun k_ => some k_ = (.slice Ao (L + 1) co : Value).ownBlock) rfl rfl (Kd.M_row (Kd.R_tight rfl HAp.out)) (fun k_ hk_ => HAp.out.1 k_ hk_.symm) (fun _ _ => trivial) (Kd.S_mono HS4.out (fun k_ hk => ⟨trivial, fun e_ => hk.2 e_⟩)) HB4.out HB4.out.size (by rw [List.length_take]; omega) ?_; intro v5 w5 ho5 hb5 hg5 hat5; rw [← htk] at ho5; have HO5 := Aside0.mk ho5; have HB5 := Aside0.mk hb5; have HG5 := Aside0.mk hg5; clear ho5 hb5 hg5 hat5)
        have HT5 : Aside0 (TabB w5 T (l0_4.length + 1) (tvF ⟨a0_0, L, a0_2, a0_3, l0_4, 0⟩)) := ⟨by
          obtain ⟨arr, h1, h2, h3⟩ := HT4.out
          refine ⟨arr, ?_, h2, h3⟩
          rw [HG5.out.block T (blk_lt h1) (fun e => by obtain ⟨cs, hc⟩ := hty.out T e.symm; rw [h1] at hc; cases hc)]
          exact h1⟩
        have HK5 : Aside0 (w5.heap[w.heap.size]? = some (.cells #[.int .i64 a0_0, .int .i64 L, .int .i64 a0_2, .int .i64 a0_3, .slice A0_4 l0_4.length c0_4] 24 (0, 0))) := ⟨by
          rw [HG5.out.block _ (blk_lt HK4.out) (fun e => by obtain ⟨cs, hc⟩ := hty.out _ e.symm; rw [HK4.out] at hc; cases hc)]
          exact HK4.out⟩
        exact ⟨⟨k + 1, by omega, rfl, HO5, HT5, HK5, HB5⟩, by simp [intOf]; omega⟩
      · have hkn : Aside0 (k = l0_4.length + 1) := ⟨by omega⟩
        go_wp2
        go_ret2
        obtain ⟨rfl, rfl⟩ : rows = r1 ∧ 0 = r2 := by have := HF.out; simpa [stone_Table.f, HE.out, hrows.out] using this
        refine ⟨_, rfl, ?_, HB1.out⟩
        have h := HS.out
        rw [hkn.out, ← hrl, List.take_length] at h
        exact h
end Go.Proofs.Ytpoopogojocolaa.P
