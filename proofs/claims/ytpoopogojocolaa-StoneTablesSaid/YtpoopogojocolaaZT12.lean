/- The contract of the law's twin of a mill. -/
import Derived.Laws.Rows
import Derived.Test.YtpoopogojocolaaZT08
import Derived.Test.YtpoopogojocolaaZT11
namespace Go.Proofs.Ytpoopogojocolaa.P
open Go.RowKit Go.Proofs.YtpoopogojocolaaW.PrintWords Go.Proofs.YtpoopogojocolaaW.PrintLast Go.Proofs.YtpoopogojocolaaW.PrintMore
attribute [local go_sem] max2_mx min2_mn max_two min_two
set_option linter.unusedVariables false
set_option linter.unusedSimpArgs false
theorem infoHour : (Try.prog.info? 73).map (fun i => (i.zero, i.size, i.bytes)) = some (some (.agg #[.int .i64 0, .int .i64 0, .int .i64 0]), 3, 24) := by kernel_rfl
def senvylaw02_twinMill.f (a0_0 a0_1 a0_2 a0_3 : Int) (l0_4 : List S73) : Option (Int × Int × Int × Int × List S73) := if l0_4.length ≤ 1000 then some (a0_0, a0_1, a0_2, a0_3, l0_4) else none
theorem blk5_set {W : World} {g : Nat} {t : TypeId} {a b c d e : Value} (x y z u v : Value) (h : W.heap[g]? = some (.cells #[a, b, c, d, e] t (0, 0))) : (((((W.setCell ⟨g, 0, none⟩ x).setCell ⟨g, 1, none⟩ y).setCell ⟨g, 2, none⟩ z).setCell ⟨g, 3, none⟩ u).setCell ⟨g, 4, none⟩ v).heap[g]? = some (.cells #[x, y, z, u, v] t (0, 0)) := by
  have h1 := blk_set h 0 x
  have h2 := blk_set h1 1 y
  have h3 := blk_set h2 2 z
  have h4 := blk_set h3 3 u
  have h5 := blk_set h4 4 v
  simpa using h5
theorem hour_KM {W w0 : World} {base : Nat} {ok : Nat → Prop} (x : S73) (cs : List Value) (h : k73.K w0 x cs) : k73.M W base ok x cs := by
  obtain rfl := k73_open h
  exact k73_mkM _ _ _ _
set_option maxHeartbeats 4000000 in
set_option maxRecDepth 100000 in
theorem senvylaw02_twinMill.calls (a0_0 : Int) (a0_1 : Int) (a0_2 : Int) (a0_3 : Int) (A0_4 : Option Addr) (c0_4 : Nat) (l0_4 : List (S73)) (r1 : Int) (r2 : Int) (r3 : Int) (r4 : Int) (r5 : List (S73)) (w : World) (hr0_4 : Kd.C k73 w A0_4 l0_4.length l0_4) (hc0_4 : l0_4.length ≤ c0_4) (h : senvylaw02_twinMill.f a0_0 a0_1 a0_2 a0_3 l0_4 = some (r1, r2, r3, r4, r5)) :
    Calls Try.prog 10 #[.agg #[.int .i64 a0_0, .int .i64 a0_1, .int .i64 a0_2, .int .i64 a0_3, .slice A0_4 l0_4.length c0_4]] w fun e w' => ∃ v4_ : Value, e = .returned (.agg #[.int .i64 r1, .int .i64 r2, .int .i64 r3, .int .i64 r4, v4_]) ∧ Kd.R k73 73 w' w.heap.size (fun _ => True) v4_ r5 ∧ Below w.heap.size w w' := by
  have HR := Aside0.mk hr0_4
  unfold senvylaw02_twinMill.f at h
  split at h
  case isFalse => cases h
  case isTrue hl =>
    simp only [Option.some.injEq, Prod.mk.injEq] at h
    obtain ⟨rfl, rfl, rfl, rfl, rfl⟩ := h
    obtain ⟨Wa, hWa⟩ : ∃ Wa, w.alloc (.cells #[.int .i64 a0_0, .int .i64 a0_1, .int .i64 a0_2, .int .i64 a0_3, .slice A0_4 l0_4.length c0_4] 24) = Wa := ⟨_, rfl⟩
    obtain ⟨Wb, hWb⟩ : ∃ Wb, Wa.alloc (.cells #[.int .i64 0, .int .i64 0, .int .i64 0, .int .i64 0, .slice none 0 0] 24) = Wb := ⟨_, rfl⟩
    have ea : Wa.heap.size = w.heap.size + 1 := by rw [← hWa]; simp
    have ba : Below w.heap.size w Wa := by rw [← hWa]; exact hb1 _ _
    have bb : Below Wa.heap.size Wa Wb := by rw [← hWb]; exact hb1 _ _
    have ka : Wb.heap[w.heap.size]? = _ := blk_below (by rw [← hWa]; exact new_blk _ _) bb
    have kb : Wb.heap[w.heap.size + 1]? = some (.cells #[.int .i64 0, .int .i64 0, .int .i64 0, .int .i64 0, .slice none 0 0] 24 (0, 0)) := by rw [← hWb, ← ea]; exact new_blk _ _
    have HB := Aside0.mk (below_step ba bb)
    have KA := Aside0.mk ka
    have KB := Aside0.mk kb
    obtain ⟨c0, c1, c2, c3, c4⟩ := blk5 ka
    have z0 := blk_lt ka
    have hsz : w.heap.size + 1 < Wb.heap.size := blk_lt kb
    clear hr0_4
    go_enter Try.func10, Try.ntmps10
    go_upto_region 1 with fail
    clear hWa hWb ea ba bb ka kb
    go_wp2_with (at_builtin; refine Kd.R_append_rows k73 (Rr := k73.K Wb) (w0 := w) w.heap.size rfl _ _ 22 73 (.agg #[.int .i64 0, .int .i64 0, .int .i64 0]) 24 rfl Try.underlying22 infoHour rfl (by decide) (by omega) (.slice none 0 0) [] l0_4 A0_4 l0_4.length c0_4 (fun k => w.heap.size + 1 < k) (fun _ => False) rfl rfl (Kd.R_nil _ _ _ _ _) (Kd.C_below HR.out HB.out) hour_KM (fun _ hk => hk.elim) (fun k hk => by omega) HB.out HB.out.size (by simp; omega) ?_; intro v2 w2 ho2 hb2 hg2 hat2; rw [List.nil_append] at ho2; obtain ⟨A2, d2, rfl, hl2, hC2⟩ := Kd.R_reads ho2; have HO2 := Aside0.mk ho2; have HB2 := Aside0.mk hb2; have KA2 := Aside0.mk (blk_grownC KA.out hg2 (fun k e => by simp [Value.ownBlock] at e)); have KB2 := Aside0.mk (blk_grownC KB.out hg2 (fun k e => by simp [Value.ownBlock] at e)); clear ho2 hb2 hg2 hat2 hC2 c0 c1 c2 c3 c4 z0; obtain ⟨c0, c1, c2, c3, c4⟩ := blk5 KA2.out; obtain ⟨e0, e1, e2, e3, e4⟩ := blk5 KB2.out; have f2 := blk_frozen KA2.out; have f3 := blk_frozen KB2.out; have z2 := blk_lt KA2.out; have z3 := blk_lt KB2.out)
    have KB3 : Aside0 ((w2.setCell ⟨w.heap.size, 4, none⟩ (.slice A2 l0_4.length d2)).heap[w.heap.size + 1]? = some (.cells #[.int .i64 0, .int .i64 0, .int .i64 0, .int .i64 0, .slice none 0 0] 24 (0, 0))) := ⟨by rw [Below.heap_setCell _ _ _ _ (by simp)]; exact KB2.out⟩
    have KB4 := blk5_set (.int .i64 a0_0) (.int .i64 a0_1) (.int .i64 a0_2) (.int .i64 a0_3) (.slice A2 l0_4.length d2) KB3.out
    refine bodyPost_ret (results_cell_row rfl _ _ (w.heap.size + 1) 24 _ (0, 0) _ rfl KB4 Try.underlying24 rfl (by kernel_rfl)) rfl ?_
    have far : ∀ k, w.heap.size + 1 < k → k ≠ w.heap.size := fun k hk => by omega
    have far1 : ∀ k, w.heap.size + 1 < k → k ≠ w.heap.size + 1 := fun k hk => by omega
    refine ⟨_, rfl, Kd.R_mono (ok := fun k => w.heap.size + 1 < k) ?_ (fun _ _ => trivial), ?_⟩
    · exact Kd.R_far (p := ⟨w.heap.size + 1, 4, none⟩) (Kd.R_far (p := ⟨w.heap.size + 1, 3, none⟩) (Kd.R_far (p := ⟨w.heap.size + 1, 2, none⟩) (Kd.R_far (p := ⟨w.heap.size + 1, 1, none⟩) (Kd.R_far (p := ⟨w.heap.size + 1, 0, none⟩) (Kd.R_far (p := ⟨w.heap.size, 4, none⟩) HO2.out far _) far1 _) far1 _) far1 _) far1 _) far1 _
    · exact (((((HB2.out.setCell (p := ⟨w.heap.size, 4, none⟩) (Nat.le_refl _) _).setCell (p := ⟨w.heap.size + 1, 0, none⟩) (Nat.le_succ _) _).setCell (p := ⟨w.heap.size + 1, 1, none⟩) (Nat.le_succ _) _).setCell (p := ⟨w.heap.size + 1, 2, none⟩) (Nat.le_succ _) _).setCell (p := ⟨w.heap.size + 1, 3, none⟩) (Nat.le_succ _) _).setCell (p := ⟨w.heap.size + 1, 4, none⟩) (Nat.le_succ _) _
end Go.Proofs.Ytpoopogojocolaa.P
