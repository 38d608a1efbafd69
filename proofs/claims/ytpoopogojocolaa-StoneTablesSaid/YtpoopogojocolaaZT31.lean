/- The contract of stone's table: what can be ground from each hour and heat on. -/
import Derived.Test.YtpoopogojocolaaZT29
import Derived.Test.YtpoopogojocolaaZT30
namespace Go.Proofs.Ytpoopogojocolaa.P
open Go.RowKit Go.Shelf Go.Proofs.YtpoopogojocolaaW.PrintWords Go.Proofs.YtpoopogojocolaaW.PrintLast Go.Proofs.YtpoopogojocolaaW.PrintMore
attribute [local go_sem] max2_mx min2_mn max_two min_two
set_option linter.unusedVariables false
set_option linter.unusedSimpArgs false
def rowF (b : Bn) (h : S73) (next : List Int) : List Int := (List.range 42).map (fun (j : Nat) => if (j : Int) ≤ b.li ∧ 0 ≤ cellF b h next j then cellF b h next j else 0)
def rowAt (b : Bn) : List S73 → List Int
  | [] => List.replicate 42 0
  | h :: hs => rowF b h (rowAt b hs)
theorem rowAt_length (b : Bn) : ∀ hs, (rowAt b hs).length = 42
  | [] => by simp [rowAt]
  | h :: hs => by simp [rowAt, rowF]
def tvF (b : Bn) (i h : Nat) : Int := (rowAt b (b.l.drop i)).getD h 0
def tvK (b : Bn) (k i h : Nat) : Int := if b.l.length - k ≤ i then tvF b i h else 0
theorem tvK_zero (b : Bn) {i h : Nat} (hi : i < b.l.length + 1) (hh : h < 42) : tvK b 0 i h = 0 := by
  unfold tvK
  split
  · have : i = b.l.length := by omega
    subst this
    simp [-List.reduceReplicate, tvF, rowAt, List.getElem?_replicate, hh]
  · rfl
theorem row_list {l : List Int} (h : l.length = 42) : (List.range 42).map (fun j => l.getD j 0) = l := by
  apply List.ext_getElem
  · simp [h]
  · intro i h1 h2
    simp [List.getD_eq_getElem?_getD, h2]
theorem set_grown (W : World) (T j : Nat) (v : Value) : W.grownBy (W.setCell ⟨T, j, none⟩ v) (some T) := ⟨rfl, rfl, rfl, by simp [World.setCell], fun k hk hne => Below.heap_setCell _ _ _ _ (fun e => hne (by rw [e]))⟩
theorem law_load_row {ops : Array Oper} {rest : List Oper} {o : Oper} {a : Act} {Q : Exit → Act → World → Prop} {W : World} {T m i : Nat} {tv : Nat → Nat → Int} (hgd : o.guard = none) (x : Operand) (ho : o.op = .load 85 x) (hx : a.eval x = .pointer (some ⟨T, i * 42, none⟩)) (h : TabB W T m tv) (hi : i < m) {row : List Int} (hr : (List.range 42).map (tv i) = row)
    (hK : wpList Try.prog ops Q rest (a.put o.dst (.agg (row.map (Value.int .i64)).toArray)) W) : wpList Try.prog ops Q (o :: rest) a W :=
  wpList_plain hgd fun _ hK' => by
    subst hr
    unfold Oper.wp execOp
    simp only [ho, hx, Instr.loadAt, Instr.sureAddr, Sem.run_bind, Sem.run_pure, Result.andThen_ok, load_row h hi]
    exact hK' _ _ hK
set_option maxHeartbeats 4000000 in
set_option maxRecDepth 100000 in
theorem table62 (g : Nat) (b : Bn) (A : Option Addr) (c : Nat) (w : World) (hG : GoodB b) (hB : BenchAt w g b A c) :
    Calls Try.prog 62 #[.pointer (some ⟨g, 0, none⟩)] w fun e w' => ∃ T, e = .returned (.slice (some ⟨T, 0, none⟩) (b.l.length + 1) (b.l.length + 1)) ∧ TabB w' T (b.l.length + 1) (tvF b) ∧ w.heap.size ≤ T ∧ Below w.heap.size w w' := by
  have HN := Aside0.mk hB
  have hn := hG.n
  obtain ⟨c0, c1, c2, c3, c4, c5⟩ := blk6 hB.blk
  have z0 := blk_lt hB.blk
  clear hB c0 c1 c2 c3 c5
  obtain ⟨W1, hmk, ht1, hb1'⟩ := make_tab w (b.l.length + 1) (by omega)
  obtain ⟨W2, hclr, ht2, hg2⟩ := clear_row ht1 (n := b.l.length) (c := 42) (by omega) 0
  have hb2 : Below w.heap.size w W2 := hb1'.grown hg2 hb1'.size (fun k e => by injection e with e; omega)
  have c4' := pw_cell_below hb1' c4
  have c4'' := pw_cell_below hb2 c4
  have z1 := Nat.lt_of_lt_of_le z0 hb1'.size
  have HT2 : Aside0 (TabB W2 w.heap.size (b.l.length + 1) (tvK b 0)) := ⟨ht2.congr (fun i j hi hj => by rw [tvK_zero b hi hj]; split <;> rfl)⟩
  have HB2 := Aside0.mk hb2
  have hzT := ht1.lt
  clear ht1 ht2 hb1' hg2 hb2
  rw [show ((b.l.length + 1 : Nat) : Int) = (b.l.length : Int) + 1 from rfl] at hmk
  go_enter Try.func62, Try.ntmps62
  go_wp2
  go_loopw [31] (fun v wr => ∃ k : Nat, k ≤ b.l.length ∧ v = .int .i64 k ∧ Aside0 (TabB wr w.heap.size (b.l.length + 1) (tvK b k)) ∧ Aside0 (Below w.heap.size w wr)) (fun v _ => b.l.length - (intOf v).toNat)
  case atStart => exact ⟨0, Nat.zero_le _, rfl, HT2, HB2⟩
  case round =>
    clear HT2 HB2 hmk hclr c4' c4'' z1 hzT
    obtain ⟨k, hk, rfl, HT, HB⟩ := hrel
    have c4' := pw_cell_below HB.out c4
    have z1 := Nat.lt_of_lt_of_le z0 HB.out.size
    have hzT := HT.out.lt
    by_cases hlt : k < b.l.length
    · obtain ⟨i, hi⟩ : ∃ i, b.l.length - 1 - k = i := ⟨_, rfl⟩
      have hi1 : i + 1 + k = b.l.length := by omega
      have hi2 : ((b.l.length : Int) - 1 - k) = (i : Int) := by omega
      obtain ⟨h, hh⟩ : ∃ h, b.l[i]? = some h := ⟨_, List.getElem?_eq_getElem (by omega)⟩
      obtain ⟨row, hrow⟩ : ∃ row, Aside0 (rowAt b (b.l.drop (i + 1)) = row) := ⟨_, ⟨rfl⟩⟩
      have hrow1 : Aside0 ((List.range 42).map (tvK b k (i + 1)) = row) := ⟨by
        rw [← hrow.out, ← row_list (rowAt_length b (b.l.drop (i + 1)))]
        refine List.map_congr_left (fun j hj => ?_)
        unfold tvK
        rw [if_pos (by omega)]
        rfl⟩
      have hrl : row.length = 42 := by rw [← hrow.out]; exact rowAt_length _ _
      clear hi
      go_upto_region 7 with fail
      go_wp2_with (refine law_load_row (T := w.heap.size) (m := b.l.length + 1) (i := i + 1) rfl _ rfl rfl HT.out (by omega) hrow1.out ?_)
      obtain ⟨L, hL⟩ := Int.eq_ofNat_of_zero_le hG.li0
      have hL1 : L ≤ 41 := by have := hG.li1; omega
      refine (reached82 g b A c i L h row wr hG (HN.out.below HB.out) hh hrl hL hL1).mono ?_
      rintro e w3 ⟨mc, rfl, hm3, hb3⟩
      obtain ⟨l, hl⟩ : ∃ l, Aside0 ((allF b h row (L + 1)).filter (fun t => decide (0 ≤ t.2.1)) = l) := ⟨_, ⟨rfl⟩⟩
      have hnd : (l.map (·.2.2)).Nodup := by rw [← hl.out]; exact List.Nodup.sublist (List.Sublist.map _ List.filter_sublist) (allF_nodup _ _ _ _)
      have hkey : ∀ t, t ∈ l → t.1 = (t.2.2 : Int) ∧ t.2.2 < L + 1 := fun t ht => by rw [← hl.out] at ht; exact ⟨(allF_key (List.mem_filter.1 ht).1).1, (allF_key (List.mem_filter.1 ht).1).2.1⟩
      rw [hl.out] at hm3
      have HM3 := Aside0.mk hm3
      have HT3 := Aside0.mk (HT.out.below hb3)
      have HB3 := Aside0.mk (below_step HB.out hb3)
      clear hm3 hb3 HT HB c4' z1 hzT
      go_wp2_with (at_range; refine law_range rfl _ rfl rfl HM3.out ?_; intro hit; have HI := Aside0.mk hit; clear hit; go_simp)
      obtain ⟨W6, hW6⟩ : ∃ W6, w3.alloc (.mapIter (some mc) (L + 1) #[] (L + 1)) = W6 := ⟨_, rfl⟩
      have hn6 : Below w3.heap.size w3 W6 := by rw [← hW6]; exact hb1 _ _
      rw [hW6] at HI ⊢
      clear hW6
      have HM6 := Aside0.mk (HM3.out.below hn6)
      have HT6 := Aside0.mk (HT3.out.below hn6)
      have HB6 := Aside0.mk (below_step HB3.out hn6)
      have hi3 : mc < w3.heap.size := HM3.out.lt
      have hi4 : w.heap.size < w3.heap.size := HT3.out.lt
      have hne : mc ≠ w.heap.size := fun e => by
        obtain ⟨arr, ha⟩ := HT3.out.cells
        have h1 : w3.heap[mc]? = _ := HM3.out
        rw [e, ha] at h1
        cases h1
      clear HM3 HT3 HB3 hn6
      generalize w3.heap.size = it at *
      go_loopw [7] (fun v wr => ∃ seen tv, Aside0 (IterAt wr it mc (L + 1) seen (L + 1)) ∧ Aside0 (MapAt wr mc i l (L + 1)) ∧ Aside0 (TabB wr w.heap.size (b.l.length + 1) tv) ∧ Aside0 (Below w.heap.size w wr) ∧ Aside0 (∀ i' j, i' ≠ i → tv i' j = tvK b k i' j) ∧ Aside0 (∀ j : Nat, (∀ t, t ∈ l → t.2.2 = j → seen.contains t.2.2 = true → tv i j = t.2.1) ∧ ((∀ t, t ∈ l → t.2.2 = j → seen.contains t.2.2 = false) → tv i j = 0))) (fun _ wr => leftN l (seenOf wr it))
      case atStart => exact ⟨#[], _, HI, HM6, HT6, HB6, ⟨fun _ _ _ => rfl⟩, ⟨fun j => ⟨fun t _ _ h => by simp at h, fun _ => by unfold tvK; rw [if_neg (by omega)]⟩⟩⟩
      case round =>
        clear HI HM6 HT6 HB6
        obtain ⟨seen, tv, HI, HM, HT, HB, HO, HR⟩ := hrel
        go_wp2_with (at_next; refine law_next rfl _ rfl rfl HI.out HM.out (fun t ht => (hkey t ht).2) (Nat.le_refl _) hnd ?_ ?_)
        · intro hd
          have hall : ∀ t, t ∈ l → seen.contains t.2.2 = true := fun t ht => by simpa using hd.out t.1 t.2.1 t.2.2 ht
          have HT2 : Aside0 (TabB wr w.heap.size (b.l.length + 1) (tvK b (k + 1))) := ⟨HT.out.congr (fun i' j hi' hj => by
            by_cases e : i' = i
            · subst e
              have hr := HR.out j
              unfold tvK
              rw [if_pos (by omega)]
              unfold tvF
              rw [drop_cons hh]
              have e2 : (rowAt b (h :: b.l.drop (i' + 1))).getD j 0 = if (j : Int) ≤ b.li ∧ 0 ≤ cellF b h row j then cellF b h row j else 0 := by
                simp only [rowAt, rowF, hrow.out]
                rw [List.getD_eq_getElem?_getD, List.getElem?_map, List.getElem?_range hj]
                rfl
              rw [e2]
              by_cases hc : (j : Int) ≤ b.li ∧ 0 ≤ cellF b h row j
              · rw [if_pos hc]
                have hm : ((j : Int), cellF b h row j, j) ∈ l := by
                  rw [← hl.out]
                  refine List.mem_filter.2 ⟨List.mem_map.2 ⟨j, List.mem_range.2 (by omega), rfl⟩, decide_eq_true hc.2⟩
                exact hr.1 _ hm rfl (hall _ hm)
              · rw [if_neg hc]
                refine hr.2 (fun t ht et => absurd ?_ hc)
                have ht' := ht
                rw [← hl.out] at ht'
                obtain ⟨ht1, ht2⟩ := List.mem_filter.1 ht'
                have hk3 := allF_key ht1
                rw [et] at hk3
                refine ⟨by omega, ?_⟩
                rw [← hk3.2.2]
                exact of_decide_eq_true ht2
            · rw [HO.out i' j e]
              unfold tvK
              by_cases h3 : b.l.length - k ≤ i'
              · rw [if_pos h3, if_pos (by omega)]
              · rw [if_neg h3, if_neg (by omega)])⟩
          clear hd hall HR HO
          go_simp
          go_wp2
          go_roundw
          case rel => exact ⟨k + 1, by omega, by go_num, HT2, HB⟩
          case measure => simp [intOf]; omega
        · intro x v bo W' hx hi' hg hen
          have hxb : x = (bo : Int) := (hkey _ hx.out.1).1
          have hbl : bo < L + 1 := (hkey _ hx.out.1).2
          subst hxb
          have HM2 : Aside0 (MapAt W' mc i l (L + 1)) := ⟨HM.out.grown hg.out (fun e => by injection e with e; omega)⟩
          have hrow : ∀ k, some it = some k → ∃ o : Obj, wr.heap[k]? = some o ∧ o.isCells = false := fun k e => by
            injection e with e
            subst e
            exact ⟨_, HI.out, rfl⟩
          have HT2 : Aside0 (TabB W' w.heap.size (b.l.length + 1) tv) := ⟨by
            obtain ⟨arr, h1, h2, h3⟩ := HT.out
            exact ⟨arr, blk_grownC h1 hg.out hrow, h2, h3⟩⟩
          have HB2 : Aside0 (Below w.heap.size w W') := ⟨HB.out.grown hg.out HB.out.size (fun k e => by injection e with e; omega)⟩
          have hlf : Aside0 (leftN l (seen.push bo) < leftN l (seenOf wr it)) := ⟨by rw [seenOf_at HI.out]; exact leftN_push (t := ((bo : Int), v, bo)) hx.out.1 (by simpa using hx.out.2)⟩
          have HX := Aside0.mk hx.out
          have HI2 := Aside0.mk hi'.out
          clear HM HT HB HI hg hx hi' hrow
          have e1 := HT2.out.at_ i bo (by omega) (by omega)
          have e2 : ∀ j, W'.frozen? ⟨w.heap.size, j, none⟩ = false := by
            obtain ⟨arr, h1, _⟩ := HT2.out
            exact blk_frozen h1
          have z1 := HT2.out.lt
          go_simp
          go_upto_region 10 with fail
          go_region
          have hg9 := set_grown W' w.heap.size (i * 42 + bo) (.int .i64 v)
          have hb9 : Below (W'.setCell ⟨w.heap.size, i * 42 + bo, none⟩ (.int .i64 v)).heap.size (W'.setCell ⟨w.heap.size, i * 42 + bo, none⟩ (.int .i64 v)) ((W'.setCell ⟨w.heap.size, i * 42 + bo, none⟩ (.int .i64 v)).alloc (.cells #[.int .i64 i, .int .i64 bo] 95)).drew := below_drew1 (hb1 _ _)
          have HT9 := Aside0.mk ((HT2.out.set (i0 := i) (h0 := bo) (by omega) (by omega) v).below hb9)
          have HM9 := Aside0.mk ((HM2.out.grown hg9 (fun e => by injection e with e; omega)).below hb9)
          have HB9 := Aside0.mk (below_step (HB2.out.grown hg9 HB2.out.size (fun k e => by injection e with e; omega)) hb9)
          have HI9 : Aside0 (IterAt ((W'.setCell ⟨w.heap.size, i * 42 + bo, none⟩ (.int .i64 v)).alloc (.cells #[.int .i64 i, .int .i64 bo] 95)).drew it mc (L + 1) (seen.push bo) (L + 1)) := ⟨by
            have h1 : (W'.setCell ⟨w.heap.size, i * 42 + bo, none⟩ (.int .i64 v)).heap[it]? = some (.mapIter (some mc) (L + 1) (seen.push bo) (L + 1)) := by
              rw [Below.heap_setCell _ _ _ _ (by show it ≠ w.heap.size; omega)]
              exact HI2.out
            unfold IterAt
            rw [hb9.block _ (Array.getElem?_eq_some_iff.1 h1).1]
            exact h1⟩
          generalize ((W'.setCell ⟨w.heap.size, i * 42 + bo, none⟩ (.int .i64 v)).alloc (.cells #[.int .i64 i, .int .i64 bo] 95)).drew = W9 at *
          have HO9 : Aside0 (∀ i' j, i' ≠ i → updF tv i bo v i' j = tvK b k i' j) := ⟨fun i' j e => by
            unfold updF
            rw [if_neg (fun h => e h.1)]
            exact HO.out i' j e⟩
          have HR9 : Aside0 (∀ j : Nat, (∀ t, t ∈ l → t.2.2 = j → (seen.push bo).contains t.2.2 = true → updF tv i bo v i j = t.2.1) ∧ ((∀ t, t ∈ l → t.2.2 = j → (seen.push bo).contains t.2.2 = false) → updF tv i bo v i j = 0)) := ⟨fun j => by
            by_cases e : j = bo
            · subst e
              refine ⟨fun t ht et _ => ?_, fun h => ?_⟩
              · obtain rfl := eq_of_born hnd ht HX.out.1 et
                simp [updF]
              · have := h _ HX.out.1 rfl
                simp at this
            · have hu : updF tv i bo v i j = tv i j := by unfold updF; rw [if_neg (fun h => e h.2)]
              have hc : ∀ t : Int × Int × Nat, t.2.2 = j → (seen.push bo).contains t.2.2 = seen.contains t.2.2 := fun t et => by
                rw [Array.contains_push, et]
                have : (j == bo) = false := by simpa using e
                rw [this]
                simp
              rw [hu]
              exact ⟨fun t ht et h => (HR.out j).1 t ht et (by rw [← hc t et]; exact h), fun h => (HR.out j).2 (fun t ht et => by rw [← hc t et]; exact h t ht et)⟩⟩
          clear HT2 HM2 HB2 HI2 hg9 hb9 e1 e2 z1 hen
          go_wp2
          exact ⟨⟨seen.push bo, _, HI9, HM9, HT9, HB9, HO9, HR9⟩, by rw [seenOf_at HI9.out]; exact hlf.out⟩
    · have hkn : Aside0 (k = b.l.length) := ⟨by omega⟩
      go_wp2
      go_ret
      refine ⟨_, rfl, HT.out.congr (fun i j hi hj => ?_), Nat.le_refl _, HB.out⟩
      unfold tvK
      rw [if_pos (by have := hkn.out; omega)]
end Go.Proofs.Ytpoopogojocolaa.P
