/- The contract of stone's CheckTable. -/
import Derived.Deep.DeepCutAuto
import Derived.Test.YtpoopogojocolaaZT29
import Derived.Test.YtpoopogojocolaaZT34
import Derived.Test.YtpoopogojocolaaZT40
import Derived.Test.YtpoopogojocolaaZT31
namespace Go.Proofs.Ytpoopogojocolaa.P
open Go.RowKit Go.Shelf Go.Proofs.YtpoopogojocolaaW.PrintWords Go.Proofs.YtpoopogojocolaaW.PrintLast Go.Proofs.YtpoopogojocolaaW.PrintMore
attribute [local go_sem] Oper.semAt_some
attribute [local go_sem] max2_mx min2_mn max_two min_two
set_option linter.unusedVariables false
set_option linter.unusedSimpArgs false
def badStep (next : List Int) (n : Int) (s : St) : Bool := decide (n < wrap64 (s.p + next.getD s.h.toNat 0))
def cellBad (b : Bn) (h : S73) (next : List Int) (n heat : Int) : Bool := (stepsF b h heat b.li).any (badStep next n)
def rowBad (b : Bn) (h : S73) (cur next : List Int) : Bool := (List.range cur.length).any (fun (j : Nat) => cellBad b h next (cur.getD j 0) j)
def tabBad (b : Bn) : List S73 → List (List Int) → Bool
  | h :: hs, c :: n :: t => rowBad b h c n || tabBad b hs (n :: t)
  | _, _ => false
def stone_CheckTable.f (a0_0 a0_1 a0_2 a0_3 : Int) (l0_4 : List S73) (l1 : List (List Int)) : Option (Int × Int) :=
  some (if openF a0_0 a0_1 a0_2 a0_3 l0_4 [] = 0 then (if l1.length = l0_4.length + 1 ∧ l1.any (lenF a0_1) = false then (if l1.any farF = true then (0, 3) else if tabBad ⟨a0_0, a0_1, a0_2, a0_3, l0_4, 0⟩ l0_4 l1 = true then (0, 14) else ((l1.getD 0 []).getD a0_0.toNat 0, 0)) else (0, 15)) else (0, openF a0_0 a0_1 a0_2 a0_3 l0_4 []))
theorem results_two_cells {fn : Func} {p q : Tmp} {ty tz : TypeId} (h : fn.results = #[.cell p ty, .cell q tz]) (tmps : Array Value) {P : Program} (w : World) (a b : Addr) (x y : Value) (hp : tmps.getD p undef = .pointer (some a)) (hq : tmps.getD q undef = .pointer (some b))
    (hx : (loadVar ty a).run P w = .ok x w) (hy : (loadVar tz b).run P w = .ok y w) : (results fn tmps).run P w = .ok (.tuple #[x, y]) w := by
  have hp' : tmps[p]?.getD undef = .pointer (some a) := by simpa using hp
  have hq' : tmps[q]?.getD undef = .pointer (some b) := by simpa using hq
  simp [results, h, hp', hq', asAddr, hx, hy, Sem.run_bind, Result.andThen]
theorem load_i64 {W : World} {g : Nat} {t : TypeId} {x : Int} (h : W.heap[g]? = some (.cells #[.int .i64 x] t (0, 0))) : (loadVar 2 ⟨g, 0, none⟩).run Try.prog W = .ok (.int .i64 x) W := by
  have c := blk1 h
  go_simp
theorem load_errno {W : World} {g : Nat} {t : TypeId} {x : Int} (h : W.heap[g]? = some (.cells #[.int .i64 x] t (0, 0))) : (loadVar 32 ⟨g, 0, none⟩).run Try.prog W = .ok (.int .i64 x) W := by
  have c := blk1 h
  go_simp
theorem putObj_cells {W : World} {D g : Nat} {c : Array Value} {q : TypeId} {r : Nat × Nat} (h : W.heap[g]? = some (.cells c q r)) (hD : W.heap[D]? = some (.deferred (some []))) (o : Obj) : (W.putObj D o).heap[g]? = some (.cells c q r) := by
  have hne : g ≠ D := fun e => by rw [e, hD] at h; cases h
  rw [World.putObj_heap_other hne]
  exact h
theorem end36 (w : World) (r1 r2 : Int) (tmps : Array Value) (hp : tmps.getD 4 undef = .pointer (some ⟨w.heap.size + 1 + 1, 0, none⟩)) (hq : tmps.getD 5 undef = .pointer (some ⟨w.heap.size + 1 + 1 + 1, 0, none⟩)) {n : Nat} {R : Ending → World → Prop}
    (hR : ∀ W, Below w.heap.size w W → R (.returned (.tuple #[.int .i64 r1, .int .i64 r2])) W) (Ds : List Nat) (W : World) (hM : Marks w.heap.size W Ds) (hx : W.heap[w.heap.size + 1 + 1]? = some (.cells #[.int .i64 r1] 2 (0, 0))) (hy : W.heap[w.heap.size + 1 + 1 + 1]? = some (.cells #[.int .i64 r2] 32 (0, 0))) (hb : Below w.heap.size w W) :
    LeavesInM Fence.wide n Try.prog Try.f36 tmps R (Ds.map mark) .returning W := by
  refine leaves_marks (B := w.heap.size) (.tuple #[.int .i64 r1, .int .i64 r2]) (fun W => W.heap[w.heap.size + 1 + 1]? = some (.cells #[.int .i64 r1] 2 (0, 0)) ∧ W.heap[w.heap.size + 1 + 1 + 1]? = some (.cells #[.int .i64 r2] 32 (0, 0)) ∧ Below w.heap.size w W) ?_ ?_ ?_ Ds W hM ⟨hx, hy, hb⟩
  · rintro W D ⟨h1, h2, h3⟩ hD hd
    exact ⟨putObj_cells h1 hd _, putObj_cells h2 hd _, h3.trans (belowK_b (w := w) (Nat.le_refl _) W D _ _ hD hd rfl rfl)⟩
  · rintro W ⟨h1, h2, _⟩
    exact results_two_cells (fn := Try.f36) (p := 4) (q := 5) rfl tmps W _ _ _ _ hp hq (load_i64 h1) (load_errno h2)
  · rintro W ⟨_, _, h3⟩
    exact hR W h3
theorem wrote36 {w W : World} (x y : Value) (hx : W.heap[w.heap.size + 1 + 1]? = some (.cells #[.int .i64 0] 2 (0, 0))) (hy : W.heap[w.heap.size + 1 + 1 + 1]? = some (.cells #[.int .i64 0] 32 (0, 0))) (hb : Below w.heap.size w W) :
    ((W.setCell ⟨w.heap.size + 1 + 1, 0, none⟩ x).setCell ⟨w.heap.size + 1 + 1 + 1, 0, none⟩ y).heap[w.heap.size + 1 + 1]? = some (.cells #[x] 2 (0, 0)) ∧
    ((W.setCell ⟨w.heap.size + 1 + 1, 0, none⟩ x).setCell ⟨w.heap.size + 1 + 1 + 1, 0, none⟩ y).heap[w.heap.size + 1 + 1 + 1]? = some (.cells #[y] 32 (0, 0)) ∧
    Below w.heap.size w ((W.setCell ⟨w.heap.size + 1 + 1, 0, none⟩ x).setCell ⟨w.heap.size + 1 + 1 + 1, 0, none⟩ y) := by
  refine ⟨?_, ?_, (hb.setCell (p := ⟨w.heap.size + 1 + 1, 0, none⟩) (by simp only; omega) x).setCell (p := ⟨w.heap.size + 1 + 1 + 1, 0, none⟩) (by simp only; omega) y⟩
  · rw [Below.heap_setCell _ _ _ _ (by simp)]
    exact blk_set hx 0 x
  · refine blk_set (cs := #[.int .i64 0]) ?_ 0 y
    rw [Below.heap_setCell _ _ _ _ (by simp)]
    exact hy
structure At36 (w v W : World) (s li ga fa : Int) (A : Option Addr) (n c : Nat) (A1 : Option Addr) (n1 c1 : Nat) : Prop where
  m : W.heap[w.heap.size]? = some (.cells #[.int .i64 s, .int .i64 li, .int .i64 ga, .int .i64 fa, .slice A n c] 24 (0, 0))
  t : W.heap[w.heap.size + 1]? = some (.cells #[.slice A1 n1 c1] 51 (0, 0))
  x : W.heap[w.heap.size + 1 + 1]? = some (.cells #[.int .i64 0] 2 (0, 0))
  y : W.heap[w.heap.size + 1 + 1 + 1]? = some (.cells #[.int .i64 0] 32 (0, 0))
  n : Below v.heap.size v W
  b : Below w.heap.size w W
theorem At36.below {w v W W1 : World} {s li ga fa : Int} {A : Option Addr} {n c : Nat} {A1 : Option Addr} {n1 c1 : Nat} (h : At36 w v W s li ga fa A n c A1 n1 c1) (hb : Below W.heap.size W W1) : At36 w v W1 s li ga fa A n c A1 n1 c1 :=
  ⟨blk_below h.m hb, blk_below h.t hb, blk_below h.x hb, blk_below h.y hb, below_step h.n hb, below_step h.b hb⟩
theorem At36.grown {w v W W1 : World} {s li ga fa : Int} {A : Option Addr} {n c : Nat} {A1 : Option Addr} {n1 c1 : Nat} {row : Option Nat} (h : At36 w v W s li ga fa A n c A1 n1 c1) (hg : W.grownBy W1 row) (hr : ∀ k, row = some k → w.heap.size ≤ k ∧ v.heap.size ≤ k ∧ ∃ o : Obj, W.heap[k]? = some o ∧ o.isCells = false) : At36 w v W1 s li ga fa A n c A1 n1 c1 :=
  ⟨blk_grownC h.m hg (fun k e => (hr k e).2.2), blk_grownC h.t hg (fun k e => (hr k e).2.2), blk_grownC h.x hg (fun k e => (hr k e).2.2), blk_grownC h.y hg (fun k e => (hr k e).2.2), h.n.grown hg h.n.size (fun k e => (hr k e).2.1), h.b.grown hg h.b.size (fun k e => (hr k e).1)⟩
set_option maxHeartbeats 4000000 in
set_option maxRecDepth 100000 in
theorem stone_CheckTable.calls (a0_0 : Int) (a0_1 : Int) (a0_2 : Int) (a0_3 : Int) (A0_4 : Option Addr) (c0_4 : Nat) (l0_4 : List (S73)) (A1 : Option Addr) (c1 : Nat) (l1 : List (List Int)) (r1 : Int) (r2 : Int) (w : World) (hr0_4 : Kd.C k73 w A0_4 l0_4.length l0_4) (hc0_4 : l0_4.length ≤ c0_4) (hr1 : Kd.C (Kd.slice 2 (Kd.int .i64)) w A1 l1.length l1) (hc1 : l1.length ≤ c1) (h : stone_CheckTable.f a0_0 a0_1 a0_2 a0_3 l0_4 l1 = some (r1, r2)) :
    Calls Try.prog 36 #[.agg #[.int .i64 a0_0, .int .i64 a0_1, .int .i64 a0_2, .int .i64 a0_3, .slice A0_4 l0_4.length c0_4], .slice A1 l1.length c1] w fun e w' => e = .returned (.tuple #[.int .i64 r1, .int .i64 r2]) ∧ Below w.heap.size w w' := by
  have HR := Aside0.mk hr0_4
  have HT := Aside0.mk hr1
  have HF := Aside0.mk h
  clear hr0_4 h hr1
  refine (callsIn_wide (n := 3)).1 ?_
  refine callsIn_of_wp_marks Try.func36 rfl trivial ?_ rfl
  simp only [Try.ntmps36, List.size_toArray, List.length_cons, List.length_nil, Nat.reduceAdd, Nat.reduceSub, Array.replicate_succ, Array.replicate_zero, List.push_toArray, List.append_toArray, List.nil_append, List.cons_append]
  refine wpIn_wide.2 ?_
  go_upto_region 1 with fail
  obtain ⟨Wa, hWa⟩ : ∃ Wa, w.alloc (.cells #[.int .i64 a0_0, .int .i64 a0_1, .int .i64 a0_2, .int .i64 a0_3, .slice A0_4 l0_4.length c0_4] 24) = Wa := ⟨_, rfl⟩
  obtain ⟨Wb, hWb⟩ : ∃ Wb, Wa.alloc (.cells #[.slice A1 l1.length c1] 51) = Wb := ⟨_, rfl⟩
  obtain ⟨Wc, hWc⟩ : ∃ Wc, Wb.alloc (.cells #[.int .i64 0] 2) = Wc := ⟨_, rfl⟩
  obtain ⟨W1, hW1⟩ : ∃ W1, Wc.alloc (.cells #[.int .i64 0] 32) = W1 := ⟨_, rfl⟩
  rw [hWa, hWb, hWc, hW1]
  have ea : Wa.heap.size = w.heap.size + 1 := by rw [← hWa]; simp
  have eb : Wb.heap.size = w.heap.size + 1 + 1 := by rw [← hWb, World.size_alloc, ea]
  have ec : Wc.heap.size = w.heap.size + 1 + 1 + 1 := by rw [← hWc, World.size_alloc, eb]
  have ba : Below w.heap.size w Wa := by rw [← hWa]; exact hb1 _ _
  have bb : Below Wa.heap.size Wa Wb := by rw [← hWb]; exact hb1 _ _
  have bc : Below Wb.heap.size Wb Wc := by rw [← hWc]; exact hb1 _ _
  have bd : Below Wc.heap.size Wc W1 := by rw [← hW1]; exact hb1 _ _
  have KM : Aside0 (W1.heap[w.heap.size]? = some (.cells #[.int .i64 a0_0, .int .i64 a0_1, .int .i64 a0_2, .int .i64 a0_3, .slice A0_4 l0_4.length c0_4] 24 (0, 0))) := ⟨blk_below (blk_below (blk_below (by rw [← hWa]; exact new_blk _ _) bb) bc) bd⟩
  have KT : Aside0 (W1.heap[w.heap.size + 1]? = some (.cells #[.slice A1 l1.length c1] 51 (0, 0))) := ⟨blk_below (blk_below (by rw [← hWb, ← ea]; exact new_blk _ _) bc) bd⟩
  have KX : Aside0 (W1.heap[w.heap.size + 1 + 1]? = some (.cells #[.int .i64 0] 2 (0, 0))) := ⟨blk_below (by rw [← hWc, ← eb]; exact new_blk _ _) bd⟩
  have KY : Aside0 (W1.heap[w.heap.size + 1 + 1 + 1]? = some (.cells #[.int .i64 0] 32 (0, 0))) := ⟨by rw [← hW1, ← ec]; exact new_blk _ _⟩
  have KB := Aside0.mk (below_step (below_step (below_step ba bb) bc) bd)
  clear hWa hWb hWc hW1 ea eb ec ba bb bc bd
  obtain ⟨d0, d1, d2, d3, d4⟩ := blk5 KM.out
  have z0 := blk_lt KM.out
  go_wp2_with fail
  with_reducible refine (open43 a0_0 a0_1 a0_2 a0_3 A0_4 c0_4 l0_4 none 0 0 [] _ (by exact Kd.C_below HR.out KB.out) hc0_4 (by exact C_nil0 _ _) (Nat.le_refl 0)).mono ?_
  rintro e w1 ⟨(⟨he, rfl⟩ | ⟨he, g, rfl, hbn⟩), hb⟩
  · have HE := Aside0.mk he
    have h1 : (openF a0_0 a0_1 a0_2 a0_3 l0_4 [] == 0) = false := by simpa using he
    have h2 : (openF a0_0 a0_1 a0_2 a0_3 l0_4 [] != 0) = true := by simpa using he
    have KX1 := Aside0.mk (blk_below KX.out hb)
    have KY1 := Aside0.mk (blk_below KY.out hb)
    have KB1 := Aside0.mk (below_step KB.out hb)
    have e0 := blk1 KX1.out
    have e1 := blk1 KY1.out
    have e2 := blk_frozen KX1.out
    have e3 := blk_frozen KY1.out
    have e4 := blk_lt KX1.out
    have e5 := blk_lt KY1.out
    clear he hb d0 d1 d2 d3 d4 z0
    go_wp2
    obtain ⟨rfl, rfl⟩ : 0 = r1 ∧ openF a0_0 a0_1 a0_2 a0_3 l0_4 [] = r2 := by have h := HF.out; unfold stone_CheckTable.f at h; rw [if_neg HE.out] at h; simpa using h
    obtain ⟨q1, q2, q3⟩ := wrote36 (.int .i64 0) (.int .i64 (openF a0_0 a0_1 a0_2 a0_3 l0_4 [])) KX1.out KY1.out KB1.out
    exact end36 w _ _ _ rfl rfl (fun W h => ⟨rfl, h⟩) [] _ (marks_nil _ _) q1 q2 q3
  · have HG := (open_good he).1
    have hn := HG.n2
    have hli0 : 0 ≤ a0_1 := by have := HG.s0; have := HG.sl; omega
    have hli1 := HG.l4
    have HGG := Aside0.mk HG
    have HE := Aside0.mk he
    have HBN := Aside0.mk hbn
    have HA : Aside0 (At36 w w1 w1 a0_0 a0_1 a0_2 a0_3 A0_4 l0_4.length c0_4 A1 l1.length c1) := ⟨⟨blk_below KM.out hb, blk_below KT.out hb, blk_below KX.out hb, blk_below KY.out hb, Below.refl _ _, below_step KB.out hb⟩⟩
    clear HG he hb hbn d0 d1 d2 d3 d4 z0 KM KT KX KY KB
    have e0 := blk1 HA.out.x
    have e1 := blk1 HA.out.y
    have e2 := blk_frozen HA.out.x
    have e3 := blk_frozen HA.out.y
    have e4 := blk_lt HA.out.x
    have e5 := blk_lt HA.out.y
    have e6 := blk1 HA.out.t
    have e7 := blk_lt HA.out.t
    obtain ⟨d0, d1, d2, d3, d4⟩ := blk5 HA.out.m
    have z0 := blk_lt HA.out.m
    have hl1 : l1.length ≤ 9223372036854775807 := HT.out.2.1
    by_cases hlen : l1.length = l0_4.length + 1
    · have HL := Aside0.mk hlen
      have hlb : ((l1.length : Int) != (l0_4.length : Int) + 1) = false := by rw [hlen]; simp
      clear hlen
      go_wp2_with fail
      refine (contains66 (lenF a0_1) 67 #[.pointer (some ⟨w.heap.size, 0, none⟩)] len_enters A1 c1 l1 w1 (len_pred w.heap.size a0_0 a0_1 a0_2 a0_3 _ w1 hli0 hli1 HA.out.m) (by exact Kd.C_below HT.out HA.out.b) hc1).mono ?_
      rintro e w2 ⟨rfl, hb⟩
      have HA2 := Aside0.mk (HA.out.below hb)
      clear hb HA e0 e1 e2 e3 e4 e5 e6 e7 d0 d1 d2 d3 d4 z0
      have e0 := blk1 HA2.out.x
      have e1 := blk1 HA2.out.y
      have e2 := blk_frozen HA2.out.x
      have e3 := blk_frozen HA2.out.y
      have e4 := blk_lt HA2.out.x
      have e5 := blk_lt HA2.out.y
      have e6 := blk1 HA2.out.t
      have e7 := blk_lt HA2.out.t
      obtain ⟨bl, hbl⟩ : ∃ bl, Aside0 (l1.any (lenF a0_1) = bl) := ⟨_, ⟨rfl⟩⟩
      rw [hbl.out]
      cases bl with
      | true =>
        go_wp2
        obtain ⟨rfl, rfl⟩ : 0 = r1 ∧ 15 = r2 := by have h := HF.out; unfold stone_CheckTable.f at h; rw [if_pos HE.out, if_neg (fun h => by rw [hbl.out] at h; exact absurd h.2 (by decide))] at h; simpa using h
        obtain ⟨q1, q2, q3⟩ := wrote36 (.int .i64 0) (.int .i64 15) HA2.out.x HA2.out.y HA2.out.b
        exact end36 w _ _ _ rfl rfl (fun W h => ⟨rfl, h⟩) [] _ (marks_nil _ _) q1 q2 q3
      | false =>
        go_wp2_with fail
        refine (contains66 farF 68 #[] far_enters A1 c1 l1 w2 (far_pred w2) (by exact Kd.C_below HT.out HA2.out.b) hc1).mono ?_
        rintro e w3 ⟨rfl, hb⟩
        have HA3 := Aside0.mk (HA2.out.below hb)
        clear hb HA2 e0 e1 e2 e3 e4 e5 e6 e7
        have e0 := blk1 HA3.out.x
        have e1 := blk1 HA3.out.y
        have e2 := blk_frozen HA3.out.x
        have e3 := blk_frozen HA3.out.y
        have e4 := blk_lt HA3.out.x
        have e5 := blk_lt HA3.out.y
        obtain ⟨bf, hbf⟩ : ∃ bf, Aside0 (l1.any farF = bf) := ⟨_, ⟨rfl⟩⟩
        rw [hbf.out]
        have hpos : Aside0 (l1.length = l0_4.length + 1 ∧ l1.any (lenF a0_1) = false) := ⟨HL.out, hbl.out⟩
        have hpos' := hpos
        cases bf with
        | true =>
          go_wp2
          obtain ⟨rfl, rfl⟩ : 0 = r1 ∧ 3 = r2 := by have h := HF.out; unfold stone_CheckTable.f at h; rw [if_pos HE.out, if_pos hpos.out, if_pos hbf.out] at h; simpa using h
          obtain ⟨q1, q2, q3⟩ := wrote36 (.int .i64 0) (.int .i64 3) HA3.out.x HA3.out.y HA3.out.b
          exact end36 w _ _ _ rfl rfl (fun W h => ⟨rfl, h⟩) [] _ (marks_nil _ _) q1 q2 q3
        | false =>
          obtain ⟨d0, d1, d2, d3, d4⟩ := blk5 HA3.out.m
          have z0 := blk_lt HA3.out.m
          go_wp2
          have HA := HA3
          clear HA3 HL hbl hpos e0 e1 e2 e3 e4 e5 d0 d1 d2 d3 d4 z0
          have hlt1 : Aside0 (l1.length = l0_4.length + 1) := ⟨hpos'.out.1⟩
          have hrowlen : Aside0 (∀ r, r ∈ l1 → (r.length : Int) = a0_1 + 1) := ⟨fun r hr => by
            have h := hpos'.out.2
            rw [List.any_eq_false] at h
            have := h r hr
            unfold lenF at this
            simpa using this⟩
          refine wp_loop (fun a wr => ∃ (k : Nat) (Ds : List Nat) (u8 u9 u10 u11 u41 u42 u43 u44 u45 u46 u47 u48 u49 u50 u51 u52 u53 u54 u55 u56 u57 u58 u59 u60 u61 u62 u63 u64 u65 u66 u67 u68 u69 u70 u71 u72 u73 u74 u75 u76 u77 u78 u79 : Value), k ≤ l0_4.length ∧ a = { tmps := #[.agg #[.int .i64 a0_0, .int .i64 a0_1, .int .i64 a0_2, .int .i64 a0_3, .slice A0_4 l0_4.length c0_4], .slice A1 l1.length c1, .pointer (some ⟨w.heap.size, 0, none⟩), .pointer (some ⟨w.heap.size + 1, 0, none⟩), .pointer (some ⟨w.heap.size + 1 + 1, 0, none⟩), .pointer (some ⟨w.heap.size + 1 + 1 + 1, 0, none⟩), .pointer (some ⟨g, 0, none⟩), .int .i64 0, u8, u9, u10, u11, .tuple #[.pointer (some ⟨g, 0, none⟩), .int .i64 0], .agg #[.int .i64 a0_0, .int .i64 a0_1, .int .i64 a0_2, .int .i64 a0_3, .slice A0_4 l0_4.length c0_4], .tuple #[.pointer (some ⟨g, 0, none⟩), .int .i64 0], .pointer (some ⟨g, 0, none⟩), .int .i64 0, .bool false, .int .i64 0, .bool false, undef, .bool false, .slice A1 l1.length c1, .int .i64 l1.length, .pointer (some ⟨w.heap.size, 4, none⟩), .slice A0_4 l0_4.length c0_4, .int .i64 l0_4.length, .int .i64 ((l0_4.length : Int) + 1), .bool false, .bool false, .slice A1 l1.length c1, .func (.func 67) #[] #[.pointer (some ⟨w.heap.size, 0, none⟩)], .bool false, .bool false, .bool false, .slice A1 l1.length c1, .bool false, .pointer (some ⟨w.heap.size, 4, none⟩), .slice A0_4 l0_4.length c0_4, .int .i64 l0_4.length, .int .i64 (k : Nat), u41, u42, u43, u44, u45, u46, u47, u48, u49, u50, u51, u52, u53, u54, u55, u56, u57, u58, u59, u60, u61, u62, u63, u64, u65, u66, u67, u68, u69, u70, u71, u72, u73, u74, u75, u76, u77, u78, u79, undef, undef, undef, undef, undef, undef, undef], defers := Ds.map mark } ∧ Aside0 (At36 w w1 wr a0_0 a0_1 a0_2 a0_3 A0_4 l0_4.length c0_4 A1 l1.length c1) ∧ Aside0 (Marks w.heap.size wr Ds) ∧ Aside0 (tabBad ⟨a0_0, a0_1, a0_2, a0_3, l0_4, 0⟩ (l0_4.drop k) (l1.drop k) = tabBad ⟨a0_0, a0_1, a0_2, a0_3, l0_4, 0⟩ l0_4 l1)) (fun a _ => l0_4.length - (intOf (a.tmps.getD 40 undef)).toNat) ?_ ?_
          · exact ⟨0, [], _, _, _, _, _, _, _, _, _, _, _, _, _, _, _, _, _, _, _, _, _, _, _, _, _, _, _, _, _, _, _, _, _, _, _, _, _, _, _, _, _, _, _, Nat.zero_le _, rfl, HA, ⟨marks_nil _ _⟩, ⟨by simp⟩⟩
          · clear HA
            rintro a wr ⟨k, Ds, u8, u9, u10, u11, u41, u42, u43, u44, u45, u46, u47, u48, u49, u50, u51, u52, u53, u54, u55, u56, u57, u58, u59, u60, u61, u62, u63, u64, u65, u66, u67, u68, u69, u70, u71, u72, u73, u74, u75, u76, u77, u78, u79, hk, rfl, HA, HD, HE2⟩
            obtain ⟨d0, d1, d2, d3, d4⟩ := blk5 HA.out.m
            have z0 := blk_lt HA.out.m
            have e6 := blk1 HA.out.t
            have e7 := blk_lt HA.out.t
            by_cases hlt : k < l0_4.length
            · obtain ⟨h, hh⟩ : ∃ h, l0_4[k]? = some h := ⟨_, List.getElem?_eq_getElem hlt⟩
              obtain ⟨nrow, hnrow⟩ : ∃ nrow, l1[k + 1]? = some nrow := ⟨_, List.getElem?_eq_getElem (by have := hlt1.out; omega)⟩
              obtain ⟨ad1, row, cs, hA1, hrow, hK, hcs⟩ := C_elem ([] : List Int) (Kd.C_below HT.out HA.out.b) k (by have := hlt1.out; omega)
              obtain ⟨A0, c0, rfl, hlc, hCr⟩ := hK
              have HCR := Aside0.mk hCr
              have HH := Aside0.mk hh
              have HRW := Aside0.mk hrow
              have HNR := Aside0.mk hnrow
              have HTB : Aside0 (tabBad ⟨a0_0, a0_1, a0_2, a0_3, l0_4, 0⟩ l0_4 l1 = (rowBad ⟨a0_0, a0_1, a0_2, a0_3, l0_4, 0⟩ h row nrow || tabBad ⟨a0_0, a0_1, a0_2, a0_3, l0_4, 0⟩ (l0_4.drop (k + 1)) (l1.drop (k + 1)))) := ⟨by rw [← HE2.out, drop_cons hh, drop_cons hrow, drop_cons hnrow]; rfl⟩
              have hcell : wr.cell? (ad1.add k) = some (.slice A0 row.length c0) := by have := hcs 0 _ rfl; rwa [show k * (Kd.slice 2 (Kd.int .i64)).sz + 0 = k from by simp [Kd.slice]] at this
              have hrl : (row.length : Int) = a0_1 + 1 := hrowlen.out row (List.mem_of_getElem? hrow)
              have hnrl : (nrow.length : Int) = a0_1 + 1 := hrowlen.out nrow (List.mem_of_getElem? hnrow)
              have HRL := Aside0.mk hrl
              have HNRL := Aside0.mk hnrl
              have hrl' : row.length ≤ 41 := by omega
              have hk1 : k < l1.length := by have := hlt1.out; omega
              have hk0 : l1.length ≤ 13 := by have := hlt1.out; omega
              clear hh hrow hnrow hcs hCr hrl hnrl HE2
              subst hA1
              go_upto_region 11 with fail
              obtain ⟨W2, hW2⟩ : ∃ W2, wr.alloc (.cells #[.int .i64 k] 3) = W2 := ⟨_, rfl⟩
              have hnw : Below wr.heap.size wr W2 := by rw [← hW2]; exact hb1 _ _
              have HI := Aside0.mk (show W2.heap[wr.heap.size]? = some (.cells #[.int .i64 k] 3 (0, 0)) from by rw [← hW2]; exact new_blk _ _)
              rw [hW2]
              have HA2 := Aside0.mk (HA.out.below hnw)
              have HD2 := Aside0.mk (HD.out.below hnw)
              have HCR2 := Aside0.mk (Kd.C_below HCR.out hnw)
              have hcell2 := pw_cell_below hnw hcell
              have hsz2 := HA.out.b.size
              clear HA HD HCR hcell hnw hW2 d0 d1 d2 d3 d4 z0 e6 e7
              have e6 := blk1 HA2.out.t
              have e7 := blk_lt HA2.out.t
              have i0 := blk1 HI.out
              have i1 := blk_lt HI.out
              go_wp2
              refine wp_loop (fun a wi => ∃ (j : Nat) (Es : List Nat) (u9 u10 u11 u49 u50 u51 u52 u53 u54 u55 u56 u57 u58 u59 u60 u61 u62 u63 u64 u65 u66 u67 u68 u69 u70 u71 u72 u73 u74 u75 u76 u77 u78 u79 : Value), j ≤ row.length ∧ a = { tmps := #[.agg #[.int .i64 a0_0, .int .i64 a0_1, .int .i64 a0_2, .int .i64 a0_3, .slice A0_4 l0_4.length c0_4], .slice (some ad1) l1.length c1, .pointer (some ⟨w.heap.size, 0, none⟩), .pointer (some ⟨w.heap.size + 1, 0, none⟩), .pointer (some ⟨w.heap.size + 1 + 1, 0, none⟩), .pointer (some ⟨w.heap.size + 1 + 1 + 1, 0, none⟩), .pointer (some ⟨g, 0, none⟩), .int .i64 0, .pointer (some ⟨wr.heap.size, 0, none⟩), u9, u10, u11, .tuple #[.pointer (some ⟨g, 0, none⟩), .int .i64 0], .agg #[.int .i64 a0_0, .int .i64 a0_1, .int .i64 a0_2, .int .i64 a0_3, .slice A0_4 l0_4.length c0_4], .tuple #[.pointer (some ⟨g, 0, none⟩), .int .i64 0], .pointer (some ⟨g, 0, none⟩), .int .i64 0, .bool false, .int .i64 0, .bool false, undef, .bool false, .slice (some ad1) l1.length c1, .int .i64 l1.length, .pointer (some ⟨w.heap.size, 4, none⟩), .slice A0_4 l0_4.length c0_4, .int .i64 l0_4.length, .int .i64 ((l0_4.length : Int) + 1), .bool false, .bool false, .slice (some ad1) l1.length c1, .func (.func 67) #[] #[.pointer (some ⟨w.heap.size, 0, none⟩)], .bool false, .bool false, .bool false, .slice (some ad1) l1.length c1, .bool false, .pointer (some ⟨w.heap.size, 4, none⟩), .slice A0_4 l0_4.length c0_4, .int .i64 l0_4.length, .int .i64 (k : Nat), .bool true, .int .i64 (k : Nat), .slice (some ad1) l1.length c1, .int .i64 (k : Nat), .pointer (some (ad1.add k)), .slice A0 row.length c0, .int .i64 row.length, .int .i64 (j : Nat), u49, u50, u51, u52, u53, u54, u55, u56, u57, u58, u59, u60, u61, u62, u63, u64, u65, u66, u67, u68, u69, u70, u71, u72, u73, u74, u75, u76, u77, u78, u79, undef, undef, undef, undef, undef, undef, undef], defers := Es.map mark } ∧ Aside0 (At36 w w1 wi a0_0 a0_1 a0_2 a0_3 A0_4 l0_4.length c0_4 (some ad1) l1.length c1) ∧ Aside0 (Marks w.heap.size wi Es) ∧ Aside0 (wi.heap[wr.heap.size]? = some (.cells #[.int .i64 k] 3 (0, 0))) ∧ Aside0 (Kd.C (Kd.int .i64) wi A0 row.length row) ∧ Aside0 (∀ i : Nat, i < j → cellBad ⟨a0_0, a0_1, a0_2, a0_3, l0_4, 0⟩ h nrow (row.getD i 0) i = false)) (fun a _ => row.length - (intOf (a.tmps.getD 48 undef)).toNat) ?_ ?_
              · exact ⟨0, Ds, _, _, _, _, _, _, _, _, _, _, _, _, _, _, _, _, _, _, _, _, _, _, _, _, _, _, _, _, _, _, _, _, _, _, Nat.zero_le _, rfl, HA2, HD2, HI, HCR2, ⟨fun i hi => absurd hi (by omega)⟩⟩
              · clear HA2 HD2 HCR2 HI e6 e7 i0 i1 hcell2
                rintro a wi ⟨j, Es, u9, u10, u11, u49, u50, u51, u52, u53, u54, u55, u56, u57, u58, u59, u60, u61, u62, u63, u64, u65, u66, u67, u68, u69, u70, u71, u72, u73, u74, u75, u76, u77, u78, u79, hj, rfl, HA, HD, HI, HCR, HNB⟩
                by_cases hjlt : j < row.length
                · obtain ⟨ad0, x, hA0, hx0, hx⟩ := C_at (0 : Int) HCR.out j hjlt
                  subst hA0
                  go_upto_region 14 with fail
                  obtain ⟨W3, hW3⟩ : ∃ W3, wi.alloc (.cells #[.int .i64 x] 2) = W3 := ⟨_, rfl⟩
                  have hnw : Below wi.heap.size wi W3 := by rw [← hW3]; exact hb1 _ _
                  have HX := Aside0.mk (show W3.heap[wi.heap.size]? = some (.cells #[.int .i64 x] 2 (0, 0)) from by rw [← hW3]; exact new_blk _ _)
                  rw [hW3]
                  have HA3 := Aside0.mk (HA.out.below hnw)
                  have HD3 := Aside0.mk (HD.out.below hnw)
                  have HI3 := Aside0.mk (blk_below HI.out hnw)
                  have HC3 := Aside0.mk (Kd.C_below HCR.out hnw)
                  have hHX := hx
                  clear HA HD HI HCR hnw hW3 hx0 hx
                  have i0 := blk1 HI3.out
                  have i1 := blk_lt HI3.out
                  have hbn := HBN.out.below HA3.out.n
                  obtain ⟨c0', c1', c2', c3', c4', c5'⟩ := blk6 hbn.blk
                  have z5 := blk_lt hbn.blk
                  clear c0' c2' c3' c4' c5' hbn
                  go_still_tail 9, (by kernel_rfl)
                  change wpList _ _ _ _ _ W3.drew
                  go_wp2_with fail
                  refine (steps59 g k j a0_1 W3.drew).mono ?_
                  rintro e w4 ⟨rfl, hbx, hb, hsz⟩
                  have hs2 : W3.drew.heap.size = W3.heap.size := rfl
                  have hb3 : Below W3.heap.size W3 w4 := (below_drew1 (Below.refl _ _)).trans hb
                  rw [hs2] at hsz hbx ⊢
                  have HA4 := Aside0.mk (HA3.out.below hb3)
                  have HD4 := Aside0.mk (HD3.out.below hb3)
                  have HI4 := Aside0.mk (blk_below HI3.out hb3)
                  have HC4 := Aside0.mk (Kd.C_below HC3.out hb3)
                  have HX4 := Aside0.mk (blk_below HX.out hb3)
                  have HBX := Aside0.mk hbx
                  have HB0 := Aside0.mk (HBN.out.below HA4.out.n)
                  clear hb hb3 hbx hs2 HA3 HD3 HI3 HC3 HX i0 i1 z5 c1'
                  go_wp2
                  refine (wpIn_wide (n := 3)).1 ?_
                  refine wpIn_rangeFunc_ownH rfl (by omega) (gf := 80) (lb := #[.pointer (some ⟨W3.heap.size, 0, none⟩), .pointer (some ⟨W3.heap.size + 1, 0, none⟩), .pointer (some ⟨W3.heap.size + 2, 0, none⟩)]) rfl trivial steps_enter
                    (steps80 W3.heap.size g ⟨a0_0, a0_1, a0_2, a0_3, l0_4, 0⟩ A0_4 c0_4 k j a0_1 h w4 HH.out HB0.out HBX.out)
                    (fun h k => h.trans k) (fun W l o o' _ h hc _ => KeepT.putObj o' h hc) (Below.refl _ _) (fun _ => rfl)
                    (fun pre W => At36 w w1 W a0_0 a0_1 a0_2 a0_3 A0_4 l0_4.length c0_4 (some ad1) l1.length c1 ∧ W.heap[wr.heap.size]? = some (.cells #[.int .i64 k] 3 (0, 0)) ∧ W.heap[wi.heap.size]? = some (.cells #[.int .i64 x] 2 (0, 0)) ∧ Marks w.heap.size W Es ∧ Below w4.heap.size w4 W ∧ (pre.map (·.1)).any (badStep nrow x) = false)
                    (fun c pre W => c = .ret ∧ W.heap[w.heap.size + 1 + 1]? = some (.cells #[.int .i64 0] 2 (0, 0)) ∧ W.heap[w.heap.size + 1 + 1 + 1]? = some (.cells #[.int .i64 14] 32 (0, 0)) ∧ Marks w.heap.size W Es ∧ Below w.heap.size w W ∧ (pre.map (·.1)).any (badStep nrow x) = true)
                    (fun s X Y row hs hg hr => by
                      obtain ⟨h1, h2, h3, h4, h5, h6⟩ := hs
                      exact ⟨h1.grown hg (fun k e => ⟨by have := (hr k e).1; have := HA4.out.b.size; omega, by have := (hr k e).1; have := HA4.out.n.size; omega, (hr k e).2⟩), blk_grownC h2 hg (fun k e => (hr k e).2), blk_grownC h3 hg (fun k e => (hr k e).2), h4.grown_at hg (fun D hD e => by have := (hr D e.symm).1; have := HD4.out.lt D hD; omega), h5.grown hg h5.size (fun k e => (hr k e).1), h6⟩)
                    (fun c s X Y row hs hg hr => by
                      obtain ⟨h0, h1, h2, h4, h5, h6⟩ := hs
                      exact ⟨h0, blk_grownC h1 hg (fun k e => (hr k e).2), blk_grownC h2 hg (fun k e => (hr k e).2), h4.grown_at hg (fun D hD e => by have := (hr D e.symm).1; have := HD4.out.lt D hD; omega), h5.grown hg h5.size (fun k e => by have := (hr k e).1; have := HA4.out.b.size; omega), h6⟩)
                    ⟨HA4.out, HI4.out, HX4.out, HD4.out, Below.refl _ _, rfl⟩
                    (fun s a' W => ∃ b11, W.heap[b11]? = some (.cells #[.int .i64 s.1.g, .int .i64 s.1.p, .int .i64 s.1.h] 87 (0, 0)) ∧ a' = { tmps := #[.agg #[.int .i64 a0_0, .int .i64 a0_1, .int .i64 a0_2, .int .i64 a0_3, .slice A0_4 l0_4.length c0_4], .slice (some ad1) l1.length c1, .pointer (some ⟨w.heap.size, 0, none⟩), .pointer (some ⟨w.heap.size + 1, 0, none⟩), .pointer (some ⟨w.heap.size + 1 + 1, 0, none⟩), .pointer (some ⟨w.heap.size + 1 + 1 + 1, 0, none⟩), .pointer (some ⟨g, 0, none⟩), .int .i64 0, .pointer (some ⟨wr.heap.size, 0, none⟩), .int .i64 (j : Nat), .pointer (some ⟨wi.heap.size, 0, none⟩), .pointer (some ⟨b11, 0, none⟩), .tuple #[.pointer (some ⟨g, 0, none⟩), .int .i64 0], .agg #[.int .i64 a0_0, .int .i64 a0_1, .int .i64 a0_2, .int .i64 a0_3, .slice A0_4 l0_4.length c0_4], .tuple #[.pointer (some ⟨g, 0, none⟩), .int .i64 0], .pointer (some ⟨g, 0, none⟩), .int .i64 0, .bool false, .int .i64 0, .bool false, undef, .bool false, .slice (some ad1) l1.length c1, .int .i64 l1.length, .pointer (some ⟨w.heap.size, 4, none⟩), .slice A0_4 l0_4.length c0_4, .int .i64 l0_4.length, .int .i64 ((l0_4.length : Int) + 1), .bool false, .bool false, .slice (some ad1) l1.length c1, .func (.func 67) #[] #[.pointer (some ⟨w.heap.size, 0, none⟩)], .bool false, .bool false, .bool false, .slice (some ad1) l1.length c1, .bool false, .pointer (some ⟨w.heap.size, 4, none⟩), .slice A0_4 l0_4.length c0_4, .int .i64 l0_4.length, .int .i64 (k : Nat), .bool true, .int .i64 (k : Nat), .slice (some ad1) l1.length c1, .int .i64 (k : Nat), .pointer (some (ad1.add k)), .slice (some ad0) row.length c0, .int .i64 row.length, .int .i64 (j : Nat), .bool true, .int .i64 (j : Nat), .pointer (some (ad0.add j)), .int .i64 x, .pointer (some ⟨g, 0, none⟩), .int .i64 (k : Nat), .int .i64 (j : Nat), .agg #[.int .i64 (k : Nat), .int .i64 (j : Nat)], .pointer (some ⟨g, 0, none⟩), .pointer (some ⟨g, 0, none⟩), .pointer (some ⟨g, 0, none⟩), .pointer (some ⟨g, 1, none⟩), .int .i64 a0_1, .func (.func 80) #[] #[.pointer (some ⟨W3.heap.size, 0, none⟩), .pointer (some ⟨W3.heap.size + 1, 0, none⟩), .pointer (some ⟨W3.heap.size + 2, 0, none⟩)], .agg #[.int .i64 s.1.g, .int .i64 s.1.p, .int .i64 s.1.h], u64, u65, u66, u67, u68, u69, u70, u71, u72, u73, u74, u75, u76, u77, u78, u79, undef, undef, undef, undef, undef, undef, undef], defers := [] })
                    (fun s a' u X Y row hs hg hr => by
                      obtain ⟨b11, h1, h2⟩ := hs
                      exact ⟨b11, blk_grownC h1 hg (fun k e => (hr k e).2), h2⟩) ?assign ?body ?done ?stop
                  case assign =>
                    rintro l pre s W K ⟨h1, h2, h3, h4, h5, h6⟩ hK
                    simp only [St.v]
                    gi_wp2
                    have hn := hb1 W (.cells #[.int .i64 s.1.g, .int .i64 s.1.p, .int .i64 s.1.h] 87)
                    exact hK _ _ ((KeepsOthers.alloc _ _).from _) (KeepT.of_below hn) ⟨h1.below hn, blk_below h2 hn, blk_below h3 hn, h4.below hn, below_step h5 hn, h6⟩ ⟨_, new_blk W _, rfl⟩
                  case body =>
                    rintro l pre s a' W hl ⟨r, hr⟩ ⟨h1, h2, h3, h4, h5, h6⟩ ⟨b11, h11, rfl⟩ hlt2
                    have hfit := step_fit (good_bench HGG.out) (List.mem_of_getElem? HH.out) (heat := j) (li := a0_1) (by omega) (by omega) (by omega) s.1 s.2
                    obtain ⟨⟨sg, sp, sh⟩, hs⟩ := s
                    dsimp only at hfit h11 ⊢
                    obtain ⟨f0, f1, f2⟩ := hfit
                    obtain ⟨a, rfl⟩ := Int.eq_ofNat_of_zero_le f0
                    have hnl := HNRL.out
                    obtain ⟨nv, hnv⟩ : ∃ nv, nrow[a]? = some nv := ⟨_, List.getElem?_eq_getElem (by omega)⟩
                    obtain ⟨ad1', row', cs, hA1', hrow', hK, hcs⟩ := C_elem ([] : List Int) (Kd.C_below HT.out h1.b) (k + 1) (by have := hlt1.out; omega)
                    injection hA1' with hA1'
                    subst hA1'
                    obtain rfl : nrow = row' := by have := HNR.out; rw [hrow'] at this; injection this with e; exact e.symm
                    obtain ⟨AN, cN, rfl, hlN, hCN⟩ := hK
                    have hcellN : W.cell? (ad1.add (k + 1)) = some (.slice AN nrow.length cN) := by have := hcs 0 _ rfl; rwa [show (k + 1) * (Kd.slice 2 (Kd.int .i64)).sz + 0 = k + 1 from by simp [Kd.slice]] at this
                    obtain ⟨adN, y, rfl, hcellY, hy⟩ := C_at (0 : Int) hCN a (by omega)
                    obtain rfl : nv = y := by have := hy.out; rw [hnv] at this; injection this
                    have e0 := blk1 h1.x
                    have e1 := blk1 h1.y
                    have e2 := blk_frozen h1.x
                    have e3 := blk_frozen h1.y
                    have e4 := blk_lt h1.x
                    have e5 := blk_lt h1.y
                    have e6 := blk1 h1.t
                    have e7 := blk_lt h1.t
                    have i0 := blk1 h2
                    have i1 := blk_lt h2
                    have j0 := blk1 h3
                    have j1 := blk_lt h3
                    obtain ⟨s0, s1, s2⟩ := blk3 h11
                    have s3 := blk_lt h11
                    have H1 := Aside0.mk h1
                    have H2 := Aside0.mk h2
                    have H3 := Aside0.mk h3
                    have H4 := Aside0.mk h4
                    have H5 := Aside0.mk h5
                    have H6 := Aside0.mk h6
                    have HNV := Aside0.mk hnv
                    have ha1 : (a : Int) < nrow.length := by omega
                    obtain ⟨k1, hk1e⟩ : ∃ k1, k1 = k + 1 := ⟨_, rfl⟩
                    rw [← hk1e] at hcellN
                    have hk2 : (k1 : Int) < l1.length := by have := hlt1.out; omega
                    have hk3 : (k : Int) + 1 = (k1 : Int) := by omega
                    have hk4 : IntKind.i64.wrap ((k : Int) + 1) = (k1 : Int) := by rw [IntWalk.i64_left, wrap_id (by omega) (by omega)]; exact hk3
                    have hk5 : k1 < l1.length := by omega
                    have hk6 : IntKind.i64.wrap (k1 : Int) = (k1 : Int) := by rw [IntWalk.i64_left, wrap_id (by omega) (by omega)]
                    have ha2 : a < nrow.length := by omega
                    clear hk1e
                    clear h1 h2 h3 h4 h5 h6 h11 hcs hrow' hCN hy hnl hnv
                    gi_wp2
                    refine wpIn_region_still_tail 13 (by rintro ⟨c, w, h⟩; exact h) (by rfl) (by kernel_rfl) (by kernel_rfl) ?_
                    simp only [List.take_succ_cons, List.take_zero, List.drop_succ_cons, List.drop_zero]
                    repeat still_step
                    try refine wpStill_nil ?_
                    change wpList _ _ _ _ _ W.drew
                    obtain ⟨wv, hwv⟩ : ∃ wv, Aside0 (IntKind.i64.wrap (sp + nv) = wv) := ⟨_, ⟨rfl⟩⟩
                    rw [hwv.out]
                    have hbad : Aside0 (badStep nrow x ⟨sg, sp, (a : Int)⟩ = decide (x < wv)) := ⟨by
                      unfold badStep
                      rw [← hwv.out, IntWalk.i64_left]
                      simp [List.getD_eq_getElem?_getD, HNV.out]⟩
                    have hqd : Below W.heap.size W W.drew := below_drew1 (Below.refl _ _)
                    by_cases hxw : x < wv
                    · have hd : decide (x < wv) = true := decide_eq_true hxw
                      go_wp2
                      gi_wp2
                      obtain ⟨q1, q2, q3⟩ := wrote36 (W := W.drew) (.int .i64 0) (.int .i64 14) H1.out.x H1.out.y (below_step H1.out.b hqd)
                      have hm := ((H4.out.below hqd).grown (row := some (w.heap.size + 1 + 1)) (set_grown W.drew (w.heap.size + 1 + 1) 0 (.int .i64 0)) (fun k o e h e2 => by cases e; rw [show W.drew.heap[w.heap.size + 1 + 1]? = _ from H1.out.x] at h; cases h; cases e2)).grown (row := some (w.heap.size + 1 + 1 + 1)) (set_grown _ (w.heap.size + 1 + 1 + 1) 0 (.int .i64 14)) (fun k o e h e2 => by cases e; rw [Below.heap_setCell _ _ _ _ (by simp), show W.drew.heap[w.heap.size + 1 + 1 + 1]? = _ from H1.out.y] at h; cases h; cases e2)
                      refine ⟨?_, rfl, q1, q2, hm, q3, ?_⟩
                      · have h0 : KeepsFrom w4.heap.size W.drew ((W.drew.setCell ⟨w.heap.size + 1 + 1, 0, none⟩ (.int .i64 0)).setCell ⟨w.heap.size + 1 + 1 + 1, 0, none⟩ (.int .i64 14)) := ((KeepsOthers.setCell _ _ _).from _).trans ((KeepsOthers.setCell _ _ _).from _)
                        exact ⟨h0.1, h0.2⟩
                      · rw [List.map_append, List.any_append]
                        simp only [List.map_cons, List.map_nil, List.any_cons, List.any_nil, hbad.out, hd, Bool.or_false, Bool.or_true]
                    · have hd : decide (x < wv) = false := decide_eq_false hxw
                      go_wp2
                      gi_wp2
                      refine ⟨⟨Nat.le_refl _, fun k o _ h _ => h⟩, KeepT.of_below hqd, H1.out.below hqd, blk_below H2.out hqd, blk_below H3.out hqd, H4.out.below hqd, below_step H5.out hqd, ?_⟩
                      rw [List.map_append, List.any_append, H6.out]
                      simp only [List.map_cons, List.map_nil, List.any_cons, List.any_nil, hbad.out, hd, Bool.or_false]
                  case done =>
                    rintro D xs W hD hS ⟨h1, h2, h3, h4, h5, h6⟩ hK
                    have hM6 := Marks.cons h4 (by have := HA4.out.b.size; omega) (fun hm => by have := HD4.out.lt D hm; omega) hK
                    have hcell : cellBad ⟨a0_0, a0_1, a0_2, a0_3, l0_4, 0⟩ h nrow (row.getD j 0) j = false := by
                      unfold cellBad
                      rw [show row.getD j 0 = x from by rw [List.getD_eq_getElem?_getD, hHX.out]; rfl, ← h6, hS]
                    have HNB2 : Aside0 (∀ i : Nat, i < j + 1 → cellBad ⟨a0_0, a0_1, a0_2, a0_3, l0_4, 0⟩ h nrow (row.getD i 0) i = false) := ⟨fun i hi => by
                      by_cases e : i = j
                      · rw [e]; exact hcell
                      · exact HNB.out i (by omega)⟩
                    have H1 := Aside0.mk h1
                    have H2 := Aside0.mk h2
                    have H3 := Aside0.mk (Kd.C_below HC4.out h5)
                    have H4 := Aside0.mk hM6
                    clear h1 h2 h3 h4 h5 h6 hM6 hcell HNB
                    go_wp2
                    refine ⟨⟨j + 1, D :: Es, _, _, _, _, _, _, _, _, _, _, _, _, _, _, _, _, _, _, _, _, _, _, _, _, _, _, _, _, _, _, _, _, _, _, by omega, rfl, H1, H4, H2, H3, HNB2⟩, ?_⟩
                    show row.length - (intOf (.int .i64 ((j : Int) + 1))).toNat < row.length - (intOf (.int .i64 (j : Int))).toNat
                    simp [intOf]
                    omega
                  case stop =>
                    rintro D c pre W hD hSp ⟨rfl, hx, hy, hM, hb, hany⟩ hK
                    have hM6 := Marks.cons hM (by have := HA4.out.b.size; omega) (fun hm => by have := HD4.out.lt D hm; omega) hK
                    have hcb : cellBad ⟨a0_0, a0_1, a0_2, a0_3, l0_4, 0⟩ h nrow (row.getD j 0) j = true := by
                      unfold cellBad
                      rw [show row.getD j 0 = x from by rw [List.getD_eq_getElem?_getD, hHX.out]; rfl]
                      rw [List.any_eq_true] at hany ⊢
                      obtain ⟨s, hs, hb⟩ := hany
                      exact ⟨s, hSp.subset hs, hb⟩
                    have hrb : rowBad ⟨a0_0, a0_1, a0_2, a0_3, l0_4, 0⟩ h row nrow = true := by
                      unfold rowBad
                      rw [List.any_eq_true]
                      exact ⟨j, List.mem_range.2 hjlt, hcb⟩
                    have htb : tabBad ⟨a0_0, a0_1, a0_2, a0_3, l0_4, 0⟩ l0_4 l1 = true := by rw [HTB.out, hrb]; rfl
                    obtain ⟨rfl, rfl⟩ : 0 = r1 ∧ 14 = r2 := by have h := HF.out; unfold stone_CheckTable.f at h; rw [if_pos HE.out, if_pos hpos'.out, if_neg (by rw [hbf.out]; decide), if_pos htb] at h; simpa using h
                    clear hcb hrb htb hany
                    gi_wp2
                    exact end36 w _ _ _ rfl rfl (fun W h => ⟨rfl, h⟩) (D :: Es) _ hM6 hx hy hb
                · have hjl : Aside0 (j = row.length) := ⟨by omega⟩
                  have hrb : rowBad ⟨a0_0, a0_1, a0_2, a0_3, l0_4, 0⟩ h row nrow = false := by
                    unfold rowBad
                    rw [List.any_eq_false]
                    intro i hi
                    rw [HNB.out i (by rw [hjl.out]; exact List.mem_range.1 hi)]
                    decide
                  have HTB2 : Aside0 (tabBad ⟨a0_0, a0_1, a0_2, a0_3, l0_4, 0⟩ (l0_4.drop (k + 1)) (l1.drop (k + 1)) = tabBad ⟨a0_0, a0_1, a0_2, a0_3, l0_4, 0⟩ l0_4 l1) := ⟨by rw [HTB.out, hrb]; rfl⟩
                  clear hrb
                  go_wp2
                  refine ⟨⟨k + 1, Es, _, _, _, _, _, _, _, _, _, _, _, _, _, _, _, _, _, _, _, _, _, _, _, _, _, _, _, _, _, _, _, _, _, _, _, _, _, _, _, _, _, _, _, by omega, rfl, HA, HD, HTB2⟩, ?_⟩
                  show l0_4.length - (intOf (.int .i64 ((k : Int) + 1))).toNat < l0_4.length - (intOf (.int .i64 (k : Int))).toNat
                  simp [intOf]
                  omega
            · have hkn : Aside0 (k = l0_4.length) := ⟨by omega⟩
              have htb : tabBad ⟨a0_0, a0_1, a0_2, a0_3, l0_4, 0⟩ l0_4 l1 = false := by rw [← HE2.out, hkn.out, List.drop_length]; cases l1.drop l0_4.length <;> rfl
              obtain ⟨ad1, row, cs, hA1, hrow, hK, hcs⟩ := C_elem ([] : List Int) (Kd.C_below HT.out HA.out.b) 0 (by have := hlt1.out; omega)
              obtain ⟨A0, c0, rfl, hlc, hCr⟩ := hK
              subst hA1
              have hrl : (row.length : Int) = a0_1 + 1 := hrowlen.out row (List.mem_of_getElem? hrow)
              have hs0 := HGG.out.s0
              have hs1 := HGG.out.sl
              have hs2 : a0_0 < row.length := by omega
              have hl0 : 0 < l1.length := by have := hlt1.out; omega
              obtain ⟨ad0, x, rfl, hx0, hx⟩ := C_at (0 : Int) hCr a0_0.toNat (by omega)
              have hcell : wr.cell? ad1 = some (.slice (some ad0) row.length c0) := by have := hcs 0 _ rfl; rwa [Nat.zero_mul, Nat.zero_add, Addr.add_zero'] at this
              obtain ⟨rfl, rfl⟩ : x = r1 ∧ 0 = r2 := by
                have h := HF.out
                unfold stone_CheckTable.f at h
                rw [if_pos HE.out, if_pos hpos'.out, if_neg (by rw [hbf.out]; decide), if_neg (by rw [htb]; decide)] at h
                have e : (l1.getD 0 []).getD a0_0.toNat 0 = x := by
                  rw [List.getD_eq_getElem?_getD (l := l1), hrow, Option.getD_some, List.getD_eq_getElem?_getD, hx.out]
                  rfl
                rw [e] at h
                simpa using h
              have e0 := blk1 HA.out.x
              have e1 := blk1 HA.out.y
              have e2 := blk_frozen HA.out.x
              have e3 := blk_frozen HA.out.y
              have e4 := blk_lt HA.out.x
              have e5 := blk_lt HA.out.y
              have hqd : Below wr.heap.size wr wr.drew := below_drew1 (Below.refl _ _)
              obtain ⟨q1, q2, q3⟩ := wrote36 (W := wr.drew) (.int .i64 x) (.int .i64 0) HA.out.x HA.out.y (below_step HA.out.b hqd)
              have Q1 := Aside0.mk q1
              have Q2 := Aside0.mk q2
              have Q3 := Aside0.mk q3
              have hM := Aside0.mk (((HD.out.below hqd).grown (row := some (w.heap.size + 1 + 1)) (set_grown wr.drew (w.heap.size + 1 + 1) 0 (.int .i64 x)) (fun k o e h e2 => by cases e; rw [show wr.drew.heap[w.heap.size + 1 + 1]? = _ from HA.out.x] at h; cases h; cases e2)).grown (row := some (w.heap.size + 1 + 1 + 1)) (set_grown _ (w.heap.size + 1 + 1 + 1) 0 (.int .i64 0)) (fun k o e h e2 => by cases e; rw [Below.heap_setCell _ _ _ _ (by simp), show wr.drew.heap[w.heap.size + 1 + 1 + 1]? = _ from HA.out.y] at h; cases h; cases e2))
              clear htb hcs hrow hCr hrl hx q1 q2 q3 hqd
              go_upto_region 20 with fail
              go_still_tail 7, (by kernel_rfl)
              change wpList _ _ _ _ _ wr.drew
              go_wp2
              exact end36 w _ _ _ rfl rfl (fun W h => ⟨rfl, h⟩) Ds _ hM.out Q1.out Q2.out Q3.out
    · have hlb : ((l1.length : Int) != (l0_4.length : Int) + 1) = true := by simp; omega
      have hlb2 : ((l1.length : Int) == (l0_4.length : Int) + 1) = false := by simp; omega
      have HL := Aside0.mk hlen
      clear hlen
      go_wp2
      obtain ⟨rfl, rfl⟩ : 0 = r1 ∧ 15 = r2 := by have h := HF.out; unfold stone_CheckTable.f at h; rw [if_pos HE.out, if_neg (fun h => HL.out h.1)] at h; simpa using h
      obtain ⟨q1, q2, q3⟩ := wrote36 (.int .i64 0) (.int .i64 15) HA.out.x HA.out.y HA.out.b
      exact end36 w _ _ _ rfl rfl (fun W h => ⟨rfl, h⟩) [] _ (marks_nil _ _) q1 q2 q3
end Go.Proofs.Ytpoopogojocolaa.P
