/- A table of rows of 42 numbers in one block: made, cleared, read whole, written. No condition but those its lemmas state: it tells nothing of the program but the shape of its type worths. -/
import Derived.Laws.CopyRow
import Derived.Test.YtpoopogojocolaaZT11
import Derived.Test.YtpoopogojocolaaZT27
namespace Go.Proofs.Ytpoopogojocolaa.P
open Go.RowKit Go.Shelf Go.Proofs.YtpoopogojocolaaW.PrintWords Go.Proofs.YtpoopogojocolaaW.PrintLast Go.Proofs.YtpoopogojocolaaW.PrintMore
set_option linter.unusedVariables false
set_option linter.unusedSimpArgs false
def zero42 : Value := .agg (Array.replicate 42 (.int .i64 0))
theorem infoW : (Try.prog.info? 85).map (fun i => (i.zero, i.size, i.bytes)) = some (some zero42, 42, 336) := by kernel_rfl
def TabB (W : World) (T m : Nat) (tv : Nat → Nat → Int) : Prop := ∃ arr, W.heap[T]? = some (.cells arr 85 (0, 0)) ∧ arr.size = m * 42 ∧ ∀ i h, i < m → h < 42 → arr[i * 42 + h]? = some (.int .i64 (tv i h))
theorem TabB.at_ {W : World} {T m : Nat} {tv : Nat → Nat → Int} (h : TabB W T m tv) : TabAt W T m tv := fun i j hi hj => by
  obtain ⟨arr, h1, h2, h3⟩ := h
  rw [cell_of_row _ _ _ _ _ _ h1]
  exact h3 i j hi hj
theorem TabB.below {W W' : World} {T m : Nat} {tv : Nat → Nat → Int} (h : TabB W T m tv) (hb : Below W.heap.size W W') : TabB W' T m tv := by
  obtain ⟨arr, h1, h2, h3⟩ := h
  exact ⟨arr, blk_below h1 hb, h2, h3⟩
theorem TabB.lt {W : World} {T m : Nat} {tv : Nat → Nat → Int} (h : TabB W T m tv) : T < W.heap.size := by
  obtain ⟨arr, h1, _⟩ := h
  exact blk_lt h1
theorem TabB.cells {W : World} {T m : Nat} {tv : Nat → Nat → Int} (h : TabB W T m tv) : ∃ arr, W.heap[T]? = some (.cells arr 85 (0, 0)) := by
  obtain ⟨arr, h1, _⟩ := h
  exact ⟨arr, h1⟩
theorem TabB.congr {W : World} {T m : Nat} {tv tv' : Nat → Nat → Int} (h : TabB W T m tv) (e : ∀ i j, i < m → j < 42 → tv i j = tv' i j) : TabB W T m tv' := by
  obtain ⟨arr, h1, h2, h3⟩ := h
  exact ⟨arr, h1, h2, fun i j hi hj => by rw [h3 i j hi hj, e i j hi hj]⟩
def updF (tv : Nat → Nat → Int) (i0 h0 : Nat) (v : Int) : Nat → Nat → Int := fun i h => if i = i0 ∧ h = h0 then v else tv i h
theorem TabB.set {W : World} {T m : Nat} {tv : Nat → Nat → Int} (h : TabB W T m tv) {i0 h0 : Nat} (hi0 : i0 < m) (hh0 : h0 < 42) (v : Int) : TabB (W.setCell ⟨T, i0 * 42 + h0, none⟩ (.int .i64 v)) T m (updF tv i0 h0 v) := by
  obtain ⟨arr, h1, h2, h3⟩ := h
  refine ⟨_, blk_set h1 _ _, by simpa using h2, fun i j hi hj => ?_⟩
  unfold updF
  by_cases e : i = i0 ∧ j = h0
  · obtain ⟨rfl, rfl⟩ := e
    rw [if_pos ⟨rfl, rfl⟩, Array.getElem?_setIfInBounds, if_pos rfl, if_pos (by omega)]
  · rw [if_neg e, Array.getElem?_setIfInBounds, if_neg (by omega)]
    exact h3 i j hi hj
theorem load_row {W : World} {T m : Nat} {tv : Nat → Nat → Int} (h : TabB W T m tv) {i : Nat} (hi : i < m) :
    (loadVar 85 ⟨T, i * 42, none⟩).run Try.prog W = .ok (.agg (((List.range 42).map (tv i)).map (Value.int .i64)).toArray) W := by
  have hl : (loadCells ⟨T, i * 42, none⟩ (((List.range 42).map (tv i)).map (Value.int .i64)).length).run Try.prog W = .ok (((List.range 42).map (tv i)).map (Value.int .i64)).toArray W :=
    run_loadCells_list (P := Try.prog) W ⟨T, i * 42, none⟩ _ (fun j v hv => by
      have hj : j < 42 := by have := lt_of_get hv; simpa using this
      rw [add_at, h.at_ i j hi hj]
      simpa [hj] using hv)
  have hlen : (((List.range 42).map (tv i)).map (Value.int .i64)).length = 42 := by simp
  rw [hlen] at hl
  unfold loadVar
  have hagg : (isAgg 85).run Try.prog W = .ok true W := by
    unfold isAgg
    rw [Sem.run_bind, run_underlying (P := Try.prog) Try.underlying85 W]
    rfl
  have hsz : (sizeOf 85).run Try.prog W = .ok 42 W := by
    obtain ⟨i0, hi0, hz⟩ := Option.map_eq_some_iff.1 infoW
    simp only [Prod.mk.injEq] at hz
    simp [sizeOf, typeInfo, hi0, hz.2.1]
  simp [Sem.run_bind, hagg, hsz, hl, Result.andThen]
theorem make_tab (W : World) (m : Nat) (hm : m ≤ 1000) :
    ∃ W', (Instr.makeSlice 81 (.int .i64 (m : Int)) (.int .i64 (m : Int))).run Try.prog W = .ok (.slice (some ⟨W.heap.size, 0, none⟩) m m) W' ∧ TabB W' W.heap.size m (fun _ _ => 0) ∧ Below W.heap.size W W' := by
  obtain ⟨i0, hi0, hz⟩ := Option.map_eq_some_iff.1 infoW
  simp only [Prod.mk.injEq] at hz
  have hr := run_make (P := Try.prog) W 81 85 i0 zero42 Try.underlying81 hi0 hz.1 .i64 .i64 m m (by omega) (Int.le_refl _) (by rw [hz.2.2]; omega) (by omega)
  refine ⟨_, hr, ?_, ?_⟩
  · refine ⟨_, new_blk _ _, ?_, fun i j hi hj => ?_⟩
    · rw [size_madeCells, hz.2.1]; simp
    · have hlt : i * 42 + j < m * 42 := by omega
      have hz' : zero42.cells = Array.replicate 42 (.int .i64 0) := rfl
      rw [hz', hz.2.1]
      simp [madeCells, hlt, Nat.mod_lt]
  · exact hb1 _ _
theorem clear_row {W : World} {T m : Nat} {tv : Nat → Nat → Int} (h : TabB W T m tv) {n c : Nat} (hn : n < m) (ty : TypeId) :
    ∃ W', (Builtin.clear_ #[31] ty #[.slice (some ⟨T, n * 42, none⟩) 42 c]).run Try.prog W = .ok (.tuple #[]) W' ∧ TabB W' T m (fun i j => if i = n then 0 else tv i j) ∧ W.grownBy W' (some T) := by
  obtain ⟨arr, h1, h2, h3⟩ := h
  have hst := run_storeCells_at (P := Try.prog) T (n * 42) 85 (List.replicate 42 (.int .i64 0)) 0 arr W h1 (by simp; omega) (by intro v hv; rw [(List.mem_replicate.1 hv).2]; rfl)
  obtain ⟨arr', ha⟩ : ∃ arr', (arr.toList.take (n * 42 + 0) ++ List.replicate 42 (Value.int .i64 0) ++ arr.toList.drop (n * 42 + 0 + (List.replicate 42 (Value.int .i64 0)).length)).toArray = arr' := ⟨_, rfl⟩
  rw [ha] at hst
  have hz : (zeroValue 2).run Try.prog W = .ok (.int .i64 0) W := by
    obtain ⟨i0, hi0, hz⟩ := Option.map_eq_some_iff.1 info2
    simp only [Prod.mk.injEq] at hz
    simp [zeroValue, typeInfo, hi0, hz.1]
  have hc : (Builtin.zeroCells (Value.int .i64 0).cells 42).toList = List.replicate 42 (.int .i64 0) := by kernel_rfl
  refine ⟨W.setRow T arr', ?_, ⟨arr', setRow_heap W T arr arr' _ _ h1, ?_, fun i j hi hj => ?_⟩, ?_⟩
  · simp [-List.reduceReplicate, Builtin.clear_, run_underlying (P := Try.prog) Try.underlying31, Result.andThen, hz, hc]
    rw [hst]
  · rw [← ha]
    simp; omega
  · rw [← ha]
    simp only [List.length_replicate, Nat.add_zero, List.getElem?_toArray]
    have h4 := h3 i j hi hj
    rw [← Array.getElem?_toList] at h4
    by_cases e : i = n
    · subst e
      rw [if_pos rfl, List.append_assoc, List.getElem?_append_right (by simp; omega), List.getElem?_append_left (by simp; omega)]
      simp only [List.length_take, Array.length_toList]
      rw [List.getElem?_replicate, if_pos (by omega)]
    · rw [if_neg e]
      by_cases hlt : i < n
      · rw [List.append_assoc, List.getElem?_append_left (by simp; omega), List.getElem?_take_of_lt (by omega)]
        exact h4
      · rw [List.getElem?_append_right (by simp; omega), List.getElem?_drop]
        simp only [List.length_append, List.length_take, List.length_replicate, Array.length_toList]
        rw [show n * 42 + 42 + (i * 42 + j - (min (n * 42) arr.size + 42)) = i * 42 + j by omega]
        exact h4
  · refine ⟨rfl, rfl, rfl, by simp [World.setRow], fun k hk hne => ?_⟩
    have : k ≠ T := fun e => hne (by rw [e])
    simp [World.setRow, Array.getElem?_modify, Ne.symm this]
end Go.Proofs.Ytpoopogojocolaa.P
