/- A function that ends behind several loops over function values: what such loops have laid aside is taken up. No condition: it tells nothing of the program. -/
import Derived.Maps.RangeRun
import Derived.MapKept
import Derived.WideKeyRuns
import Derived.Test.YtpoopogojocolaaZT27
import Derived.Maps.OwnOps
import Derived.Maps.RangeWalk
import Derived.StillTailTactics
import Derived.Laws.Externs
import Derived.Test.YtpoopogojocolaaZT11
namespace Go.Proofs.Ytpoopogojocolaa.P
open Go.RowKit Go.Shelf Go.Proofs.YtpoopogojocolaaW.PrintWords Go.Proofs.YtpoopogojocolaaW.PrintLast Go.Proofs.YtpoopogojocolaaW.PrintMore
open Go.ChangeMaps (setBlock heap_setBlock_same heap_setBlock_other)
set_option linter.unusedVariables false
set_option linter.unusedSimpArgs false
def kv (h x : Int) : Value := .agg #[.int .i64 h, .int .i64 x]
theorem equal_kv (a b c d : Int) (w : World) : (Op.equal 95 (kv a b) (kv c d)).run Try.prog w = .ok ((a == c) && (b == d)) w := by
  unfold Op.equal kv
  refine eqA_of Try.underlying95 (by kernel_rfl) ?_
  exact eqf_cons (a := .int .i64 a) (b := .int .i64 c) rfl (by go_simp) (by go_simp) (by go_simp) (eqf_last (a := .int .i64 b) (b := .int .i64 d) rfl (by go_simp) (by go_simp) (by go_simp))
theorem check_kv (em : Bool) (a b : Int) (w : World) : (Instr.checkKey em 10000 95 (kv a b)).run Try.prog w = .ok () w := by
  unfold Instr.checkKey kv
  have p0 : ∀ w, (part 3 #[.int .i64 a, .int .i64 b] 0).run Try.prog w = .ok (.int .i64 a) w := fun w => by go_simp
  have p1 : ∀ w, (part 2 #[.int .i64 a, .int .i64 b] 1).run Try.prog w = .ok (.int .i64 b) w := fun w => by go_simp
  have k0 : ∀ w, (Instr.checkKey em 9999 3 (.int .i64 a)).run Try.prog w = .ok () w := fun w => by
    unfold Instr.checkKey
    simp only [Sem.run_bind, run_underlying (P := Try.prog) Try.underlying3, Result.andThen]
    rfl
  have k1 : ∀ w, (Instr.checkKey em 9999 2 (.int .i64 b)).run Try.prog w = .ok () w := fun w => by
    unfold Instr.checkKey
    simp only [Sem.run_bind, run_underlying (P := Try.prog) Try.underlying2, Result.andThen]
    rfl
  simp [Sem.run_bind, run_underlying (P := Try.prog) Try.underlying95, Result.andThen, p0, p1, k0, k1]
def ent (h : Int) (t : Int × Int × Nat) : MapEntry := { key := kv h t.1, val := .int .i64 t.2.1, born := t.2.2 }
def ents (h : Int) (l : List (Int × Int × Nat)) : Array MapEntry := (l.map (ent h)).toArray
def fnd (x : Int) : List (Int × Int × Nat) → Nat → Option (Nat × Value)
  | [], _ => none
  | t :: ts, i => if t.1 = x then some (i, .int .i64 t.2.1) else fnd x ts (i + 1)
theorem asking_kv (h x : Int) (w : World) : ∀ (l : List (Int × Int × Nat)) (i : Nat), (Instr.findAsking 95 (kv h x) (l.map (ent h)) i).run Try.prog w = .ok (fnd x l i) w
  | [], i => by simp [Instr.findAsking, fnd]
  | t :: ts, i => by
    have e : (ent h t).key = kv h t.1 := rfl
    simp only [List.map_cons, Instr.findAsking, Sem.run_bind, e, equal_kv, Result.andThen_ok]
    by_cases hx : t.1 = x
    · subst hx
      simp [fnd, ent]
    · have : (x == t.1) = false := by simp; exact fun e => hx e.symm
      simp only [this, Bool.and_false, fnd, if_neg hx]
      exact asking_kv h x w ts (i + 1)
theorem find_kv (h x : Int) (w : World) (l : List (Int × Int × Nat)) : (Instr.findKey 95 (kv h x) (ents h l).toList).run Try.prog w = .ok (fnd x l 0) w := by
  unfold Instr.findKey
  simp only [Sem.run_bind, run_underlying (P := Try.prog) Try.underlying95, Result.andThen_ok, ents]
  cases l with
  | nil => simp [Instr.findNow, fnd]
  | cons t ts =>
    exact asking_kv h x w (t :: ts) 0
theorem fnd_none {x : Int} : ∀ {l : List (Int × Int × Nat)} {i : Nat}, (∀ t, t ∈ l → t.1 ≠ x) → fnd x l i = none
  | [], _, _ => rfl
  | t :: ts, i, h => by simp only [fnd, if_neg (h t List.mem_cons_self)]; exact fnd_none (fun u hu => h u (List.mem_cons_of_mem _ hu))
theorem fnd_some {x v : Int} {b : Nat} : ∀ {l r : List (Int × Int × Nat)} {i : Nat}, (∀ t, t ∈ l → t.1 ≠ x) → fnd x (l ++ (x, v, b) :: r) i = some (i + l.length, .int .i64 v)
  | [], _, _, _ => by simp [fnd]
  | t :: ts, r, i, h => by
    simp only [List.cons_append, fnd, if_neg (h t List.mem_cons_self)]
    rw [fnd_some (fun u hu => h u (List.mem_cons_of_mem _ hu))]
    simp; omega
def MapAt (W : World) (m : Nat) (h : Int) (l : List (Int × Int × Nat)) (ck : Nat) : Prop := W.heap[m]? = some (.map (ents h l) ck)
theorem getm {P : Program} {w : World} {r : Nat} {es : Array MapEntry} {clock : Nat} (hb : w.heap[r]? = some (.map es clock)) : (getObj r).run P w = .ok (.map es clock) w := by
  simp [getObj, Sem.run, hb]
theorem setm {P : Program} {w : World} {r : Nat} {es : Array MapEntry} {clock : Nat} (o : Obj) (hb : w.heap[r]? = some (.map es clock)) : (setObj r o).run P w = .ok () (setBlock w r o) := by
  simp [setObj, Sem.run, hb, setBlock]
theorem run_look {W : World} {m : Nat} {h : Int} {l r : List (Int × Int × Nat)} {ck : Nat} {x v : Int} {b : Nat} (hm : MapAt W m h (l ++ (x, v, b) :: r) ck) (hl : ∀ t, t ∈ l → t.1 ≠ x) :
    (Instr.lookup 118 (.map (some m)) (kv h x) false).run Try.prog W = .ok (.int .i64 v) W := by
  unfold Instr.lookup
  simp only [Sem.run_bind, run_underlying (P := Try.prog) Try.underlying118, Result.andThen_ok, getm hm, Sem.run_pure, check_kv, find_kv, fnd_some hl]
  rfl
theorem ents_push (h : Int) (l : List (Int × Int × Nat)) (t : Int × Int × Nat) : (ents h l).push (ent h t) = ents h (l ++ [t]) := by simp [ents]
theorem run_store_new {W : World} {m : Nat} {h : Int} {l : List (Int × Int × Nat)} {ck : Nat} {x v : Int} (hm : MapAt W m h l ck) (hl : ∀ t, t ∈ l → t.1 ≠ x) :
    (Instr.mapUpdate 118 (.map (some m)) (kv h x) (.int .i64 v)).run Try.prog W = .ok () (setBlock W m (.map (ents h (l ++ [(x, v, ck)])) (ck + 1))) := by
  unfold Instr.mapUpdate
  simp only [Sem.run_bind, run_underlying (P := Try.prog) Try.underlying118, Result.andThen_ok, getm hm, Sem.run_pure, check_kv, find_kv, fnd_none hl, setm _ hm]
  rw [← ents_push]
  rfl
theorem modify_app {α : Type} (f : α → α) : ∀ (A : List α) (y : α) (B : List α) (n : Nat), n = A.length → (A ++ y :: B).modify n f = A ++ f y :: B
  | [], y, B, n, e => by subst e; rfl
  | a :: A, y, B, n, e => by subst e; simp [List.modify_succ_cons, modify_app f A y B A.length rfl]
theorem modify_at (h : Int) (l r : List (Int × Int × Nat)) (x v u : Int) (b : Nat) : (ents h (l ++ (x, u, b) :: r)).modify l.length (fun e => { e with key := kv h x, val := .int .i64 v }) = ents h (l ++ (x, v, b) :: r) := by
  apply Array.ext'
  simp only [ents, List.map_append, List.map_cons, Array.toList_modify]
  rw [modify_app _ _ _ _ _ (by simp)]
  rfl
theorem run_store_at {W : World} {m : Nat} {h : Int} {l r : List (Int × Int × Nat)} {ck : Nat} {x u : Int} {b : Nat} (v : Int) (hm : MapAt W m h (l ++ (x, u, b) :: r) ck) (hl : ∀ t, t ∈ l → t.1 ≠ x) :
    (Instr.mapUpdate 118 (.map (some m)) (kv h x) (.int .i64 v)).run Try.prog W = .ok () (setBlock W m (.map (ents h (l ++ (x, v, b) :: r)) ck)) := by
  have hk : ((ents h (l ++ (x, u, b) :: r))[0 + l.length]?.map (·.key)).getD (kv h x) = kv h x := by simp [ents, ent]
  have hs : (Instr.keyThatStays (kv h x) (kv h x)).run Try.prog W = .ok (kv h x) W := by
    have : Instr.sameBits 10000 (kv h x) (kv h x) = true := by simp [kv, Instr.sameBits]
    simp [Instr.keyThatStays, this]
  unfold Instr.mapUpdate
  simp only [Sem.run_bind, run_underlying (P := Try.prog) Try.underlying118, Result.andThen_ok, getm hm, Sem.run_pure, check_kv, find_kv, fnd_some hl, hk, hs]
  rw [show 0 + l.length = l.length by omega, modify_at]
  exact setm _ hm
theorem erase_at (h : Int) (l r : List (Int × Int × Nat)) (t : Int × Int × Nat) : (ents h (l ++ t :: r)).eraseIdxIfInBounds l.length = ents h (l ++ r) := by
  apply Array.ext'
  simp [ents, Array.eraseIdxIfInBounds, List.eraseIdx_append_of_length_le]
theorem run_delete {W : World} {m : Nat} {h : Int} {l r : List (Int × Int × Nat)} {ck : Nat} {x u : Int} {b : Nat} (ty : TypeId) (hm : MapAt W m h (l ++ (x, u, b) :: r) ck) (hl : ∀ t, t ∈ l → t.1 ≠ x) :
    (Builtin.delete_ #[118, 95] ty #[.map (some m), kv h x]).run Try.prog W = .ok (.tuple #[]) (setBlock W m (.map (ents h (l ++ r)) ck)) := by
  simp [Builtin.delete_, run_underlying (P := Try.prog) Try.underlying118, Result.andThen_ok, getm hm, check_kv, find_kv, fnd_some hl, setm _ hm]
  rw [erase_at]
end Go.Proofs.Ytpoopogojocolaa.P
namespace Go.Proofs.Ytpoopogojocolaa.P
open Go.RowKit Go.Shelf Go.Proofs.YtpoopogojocolaaW.PrintWords Go.Proofs.YtpoopogojocolaaW.PrintLast Go.Proofs.YtpoopogojocolaaW.PrintMore
open Go.ChangeMaps (setBlock heap_setBlock_same heap_setBlock_other)
set_option linter.unusedVariables false
set_option linter.unusedSimpArgs false
theorem sb_same {W : World} {m : Nat} {o0 : Obj} (h : W.heap[m]? = some o0) (o : Obj) : (setBlock W m o).heap[m]? = some o := by
  have hlt : m < W.heap.size := (Array.getElem?_eq_some_iff.1 h).1
  simp [setBlock, hlt]
theorem sb_other (W : World) {m : Nat} (o : Obj) {k : Nat} (h : k ≠ m) : (setBlock W m o).heap[k]? = W.heap[k]? := by simp [setBlock, Ne.symm h]
theorem grown_set {W : World} {m : Nat} (o : Obj) : W.grownBy (setBlock W m o) (some m) := ⟨rfl, rfl, rfl, by simp [setBlock], fun k hk hne => sb_other W o (fun e => hne (by rw [e]))⟩
theorem MapAt.below {W W' : World} {m : Nat} {h : Int} {l : List (Int × Int × Nat)} {ck : Nat} (hm : MapAt W m h l ck) (hb : Below W.heap.size W W') : MapAt W' m h l ck := by
  have h1 : W.heap[m]? = some (.map (ents h l) ck) := hm
  unfold MapAt
  rw [hb.block _ (Array.getElem?_eq_some_iff.1 h1).1]
  exact h1
theorem MapAt.grown {W W' : World} {m : Nat} {h : Int} {l : List (Int × Int × Nat)} {ck : Nat} {row : Option Nat} (hm : MapAt W m h l ck) (hg : W.grownBy W' row) (hr : some m ≠ row) : MapAt W' m h l ck := by
  have h1 : W.heap[m]? = some (.map (ents h l) ck) := hm
  unfold MapAt
  rw [hg.block _ (Array.getElem?_eq_some_iff.1 h1).1 hr]
  exact h1
theorem MapAt.lt {W : World} {m : Nat} {h : Int} {l : List (Int × Int × Nat)} {ck : Nat} (hm : MapAt W m h l ck) : m < W.heap.size := by
  have h1 : W.heap[m]? = some (.map (ents h l) ck) := hm
  exact (Array.getElem?_eq_some_iff.1 h1).1
theorem MapAt.row {W : World} {m : Nat} {h : Int} {l : List (Int × Int × Nat)} {ck : Nat} (hm : MapAt W m h l ck) : ∀ k, some m = some k → ∃ o : Obj, W.heap[k]? = some o ∧ o.isCells = false := fun k e => by
  cases e
  exact ⟨_, hm, rfl⟩
theorem MapAt.nomark {W : World} {m : Nat} {h : Int} {l : List (Int × Int × Nat)} {ck : Nat} (hm : MapAt W m h l ck) : ∀ k o, some m = some k → W.heap[k]? = some o → o ≠ .deferred (some []) := fun k o e ho => by
  cases e
  have h1 : W.heap[m]? = some (.map (ents h l) ck) := hm
  rw [h1] at ho
  cases ho
  exact fun e => by cases e
section
variable {ops : Array Oper} {rest : List Oper} {o : Oper} {a : Act} {Q : Exit → Act → World → Prop} {W : World} {m : Nat} {h : Int} {l r : List (Int × Int × Nat)} {ck : Nat} {x v u : Int} {b : Nat}
theorem still_look {K : Act → Prop} (hg : o.guard = none) (p q : Operand) (hop : o.op = Op.lookup 118 p q false) (hp : a.eval p = .map (some m)) (hq : a.eval q = kv h x) (hm : MapAt W m h (l ++ (x, v, b) :: r) ck) (hl : ∀ t, t ∈ l → t.1 ≠ x)
    (hK : wpStill Try.prog ops W K rest (a.put o.dst (.int .i64 v))) : wpStill Try.prog ops W K (o :: rest) a := by
  refine wpStill_step (fun K' hK' => ?_)
  simp only [Region.wanted, hg, if_true]
  unfold Oper.still
  simp [execOp, hop, hp, hq, run_look hm hl, Result.andThen]
  exact ⟨rfl, hK' _ hK⟩
theorem law_new (hg : o.guard = none) (hd : o.dst = none) (p q s : Operand) (hop : o.op = Op.mapUpdate 118 p q s) (hp : a.eval p = .map (some m)) (hq : a.eval q = kv h x) (hs : a.eval s = .int .i64 v) (hm : MapAt W m h l ck) (hl : ∀ t, t ∈ l → t.1 ≠ x)
    (hK : ∀ W', MapAt W' m h (l ++ [(x, v, ck)]) (ck + 1) → W.grownBy W' (some m) → wpList Try.prog ops Q rest a W') : wpList Try.prog ops Q (o :: rest) a W := by
  refine wpList_plain hg fun K' hK' => ?_
  unfold Oper.wp
  simp [execOp, hop, hp, hq, hs, run_store_new (v := v) hm hl, Result.andThen]
  refine hK' _ _ ?_
  rw [hd]
  exact hK _ (sb_same hm _) (grown_set _)
theorem law_put (hg : o.guard = none) (hd : o.dst = none) (p q s : Operand) (hop : o.op = Op.mapUpdate 118 p q s) (hp : a.eval p = .map (some m)) (hq : a.eval q = kv h x) (hs : a.eval s = .int .i64 v) (hm : MapAt W m h (l ++ (x, u, b) :: r) ck) (hl : ∀ t, t ∈ l → t.1 ≠ x)
    (hK : ∀ W', MapAt W' m h (l ++ (x, v, b) :: r) ck → W.grownBy W' (some m) → wpList Try.prog ops Q rest a W') : wpList Try.prog ops Q (o :: rest) a W := by
  refine wpList_plain hg fun K' hK' => ?_
  unfold Oper.wp
  simp [execOp, hop, hp, hq, hs, run_store_at v hm hl, Result.andThen]
  refine hK' _ _ ?_
  rw [hd]
  exact hK _ (sb_same hm _) (grown_set _)
def IterAt (W : World) (i m since : Nat) (seen : Array Nat) (c0 : Nat) : Prop := W.heap[i]? = some (.mapIter (some m) since seen c0)
theorem law_range (hg : o.guard = none) (p : Operand) (hop : o.op = Op.range 118 p) (hp : a.eval p = .map (some m)) (hm : MapAt W m h l ck)
    (hK : IterAt (W.alloc (.mapIter (some m) ck #[] ck)) W.heap.size m ck #[] ck → wpList Try.prog ops Q rest (a.put o.dst (.pointer (some ⟨W.heap.size, 0, none⟩))) (W.alloc (.mapIter (some m) ck #[] ck))) : wpList Try.prog ops Q (o :: rest) a W := by
  refine wpList_plain hg fun K' hK' => ?_
  have hrun : (Instr.range 118 (.map (some m))).run Try.prog W = .ok (.pointer (some ⟨W.heap.size, 0, none⟩)) (W.alloc (.mapIter (some m) ck #[] ck)) := by
    unfold Instr.range
    simp only [Sem.run_bind, run_underlying (P := Try.prog) Try.underlying118, Result.andThen_ok, getm hm, Sem.run_pure]
    rfl
  unfold Oper.wp
  simp [execOp, hop, hp, hrun, Result.andThen]
  exact hK' _ _ (hK (new_blk _ _))
theorem leftOf_ents {seen : Array Nat} (h0 : (leftOf (ents h l) seen).size = 0) : ∀ t, t ∈ l → seen.contains t.2.2 = true := by
  intro t ht
  have h1 : leftOf (ents h l) seen = #[] := Array.eq_empty_of_size_eq_zero h0
  unfold leftOf at h1
  rw [Array.filter_eq_empty_iff] at h1
  have := h1 (ent h t) (by simp [ents]; exact ⟨_, _, _, ht, rfl⟩)
  simpa [ent] using this
theorem law_next {i since c0 : Nat} {seen : Array Nat} (hg : o.guard = none) (it : Operand) (hop : o.op = Op.next it false) (hit : a.eval it = .pointer (some ⟨i, 0, none⟩)) (hi : IterAt W i m since seen c0) (hm : MapAt W m h l ck) (hold : ∀ t, t ∈ l → t.2.2 < since) (hsc : since ≤ c0) (hnd : (l.map (·.2.2)).Nodup)
    (hDone : Aside0 (∀ t, t ∈ l → seen.contains t.2.2 = true) → wpList Try.prog ops Q rest (a.put o.dst (.tuple #[.bool false])) W)
    (hMore : ∀ (x v : Int) (b : Nat) W', Aside0 ((x, v, b) ∈ l ∧ seen.contains b = false) → Aside0 (IterAt W' i m since (seen.push b) ck) → Aside0 (W.grownBy W' (some i)) → (Instr.entry (.pointer (some ⟨i, 0, none⟩))).run Try.prog W' = .ok (.tuple #[.agg #[.int .i64 h, .int .i64 x], .int .i64 v]) W' →
      wpList Try.prog ops Q rest (a.put o.dst (.tuple #[.bool true, .agg #[.int .i64 h, .int .i64 x], .int .i64 v])) W') : wpList Try.prog ops Q (o :: rest) a W := by
  refine wpList_plain hg fun K' hK' => ?_
  have hlist : (ents h l).toList = l.map (ent h) := by simp [ents]
  have hold' : ∀ x ∈ (ents h l).toList, x.born < since := fun x hx => by
    rw [hlist] at hx
    obtain ⟨t, ht, rfl⟩ := List.mem_map.1 hx
    exact hold t ht
  unfold Oper.wp
  rcases run_next_at (P := Try.prog) W o.type i m since c0 seen (ents h l) ck hi hm hold' hsc with ⟨h0, hrun⟩ | ⟨e, he, w1, hw1, hrun⟩
  · simp [execOp, hop, hit, hrun, Result.andThen]
    exact hK' _ _ (hDone ⟨leftOf_ents h0⟩)
  · unfold leftOf at he
    simp only [Array.toList_filter, List.mem_filter, hlist, List.mem_map] at he
    obtain ⟨⟨t, ht, rfl⟩, hs⟩ := he
    have hs' : seen.contains t.2.2 = false := by simpa [ent] using hs
    have hi1 : w1.heap[i]? = some (.mapIter (some m) since seen c0) := by rcases hw1 with rfl | rfl <;> exact hi
    have hm1 : w1.heap[m]? = some (.map (ents h l) ck) := by rcases hw1 with rfl | rfl <;> exact hm
    have hne : m ≠ i := fun e => by rw [e] at hm1; rw [hi1] at hm1; cases hm1
    have hi2 : IterAt (setBlock w1 i (.mapIter (some m) since (seen.push t.2.2) ck)) i m since (seen.push t.2.2) ck := sb_same hi1 _
    have hm2 : (setBlock w1 i (.mapIter (some m) since (seen.push t.2.2) ck)).heap[m]? = some (.map (ents h l) ck) := by rw [sb_other _ _ hne]; exact hm1
    have hen := run_entry_at (P := Try.prog) _ i m since seen (ents h l) ck (ent h t) hi2 hm2 (by rw [hlist]; exact List.mem_map_of_mem ht) (by rw [hlist, List.map_map]; exact hnd)
    simp [execOp, hop, hit, hrun, Result.andThen]
    refine hK' _ _ (hMore t.1 t.2.1 t.2.2 _ ⟨ht, hs'⟩ ⟨hi2⟩ ⟨?_⟩ hen)
    rcases hw1 with rfl | rfl
    · exact grown_set _
    · exact ⟨rfl, rfl, rfl, by simp [setBlock], fun k hk hne => by rw [sb_other _ _ (fun e => hne (by rw [e]))]; rfl⟩
end
end Go.Proofs.Ytpoopogojocolaa.P
namespace Go.Proofs.Ytpoopogojocolaa.P
open Go.RowKit Go.Shelf Go.Proofs.YtpoopogojocolaaW.PrintWords Go.Proofs.YtpoopogojocolaaW.PrintLast Go.Proofs.YtpoopogojocolaaW.PrintMore
set_option linter.unusedVariables false
set_option linter.unusedSimpArgs false
set_option maxHeartbeats 4000000 in
set_option maxRecDepth 100000 in
theorem clone86 (m : Nat) (h : Int) (l : List (Int × Int × Nat)) (ck : Nat) (w : World) (hm : MapAt w m h l ck) :
    Calls Try.prog 86 #[.map (some m)] w fun e w' => e = .returned (.map (some w.heap.size)) ∧ w' = w.alloc (.map (ents h l) ck) := by
  go_enter Try.func86, Try.ntmps86
  have he : ∀ W, (binOp BinOp.eql 118 (.map (some m)) (.map none)).run Try.prog W = .ok (.bool false) W := fun W => by
    have h1 : (Op.equalIn Op.maxDepth 118 (.map (some m)) (.map none)).run Try.prog W = .ok false W := by
      rw [show Op.maxDepth = 9999 + 1 from rfl, Op.equalIn]
      simp only [Sem.run_bind, run_underlying (P := Try.prog) Try.underlying118, Result.andThen_ok]
      rfl
    simp [binOp, Op.equal, h1, Result.andThen]
  have hcl : (Extern.MapsClone.clone #[.iface 118 (.map (some m))]).run Try.prog w = .ok (.iface 118 (.map (some w.heap.size))) (w.alloc (.map (ents h l) ck)) := by
    have e1 : Extern.MapsClone.clone #[.iface 118 (.map (some m))] = (getObj m >>= fun o => match o with | .map entries clock => (newObj (.map entries clock)) >>= fun r => pure (.iface 118 (.map (some r))) | _ => stuck "maps.clone: a map expected") := rfl
    rw [e1]
    simp only [Sem.run_bind, getm hm, Result.andThen_ok]
    rfl
  have hcf : (callFunc 87 #[.iface 118 (.map (some m))]).run Try.prog w = .ok (.value (.iface 118 (.map (some w.heap.size)))) (w.alloc (.map (ents h l) ck)) := by
    have hf : Try.prog.funcs[87]? = some Try.f87 := by rfl
    have hn : Extern.findNext Try.f87 = none := by kernel_rfl
    have hx : Extern.find Try.f87 = some Extern.MapsClone.clone := by kernel_rfl
    rw [run_callFunc_extern hf (by kernel_rfl) (by kernel_rfl) hn hx, hcl]
    rfl
  have hta : ∀ W, (Instr.typeAssert (.iface 118 (.map (some w.heap.size))) 20 118 false).run Try.prog W = .ok (.map (some w.heap.size)) W := fun W => by
    unfold Instr.typeAssert
    simp only [Sem.run_bind, run_underlying (P := Try.prog) Try.underlying118, Result.andThen_ok]
    rfl
  go_wp2
  go_ret
  exact ⟨rfl, rfl⟩
end Go.Proofs.Ytpoopogojocolaa.P
namespace Go.Proofs.Ytpoopogojocolaa.P
open Go Go.RowKit
set_option linter.unusedVariables false
set_option linter.unusedSimpArgs false
section
variable {P : Program} {ops : Array Oper} {Q : Exit → Act → World → Prop} {l n : Nat}
theorem rows_in {row : String} {args : Array Value} {w : World} {R : Value → World → Prop} (h : Rows P row args w R) : RowsIn (Fence.wide.inRound l) n P row args w R := by
  have h0 : RowsIn Fence.wide n P row args w R := fun c cs _ => by
    obtain ⟨v, w', r, s⟩ := h c cs
    exact ⟨v, w', r, stepsIn_wide.2 s⟩
  exact h0
theorem oper_in {o : Oper} {a : Act} {w : World} {K : Act → World → Prop} (hno : ¬ LetsOut Q) (hnd : ∀ c, o.op ≠ Op.defer c) (h : o.wp P a w K Q) : o.wpIn (Fence.wide.inRound l) n P a w K Q := by
  refine ⟨fun _ _ => trivial, ?_⟩
  rw [show (Fence.wide.inRound l).round = some l from rfl, Oper.semAt_some l a.eval o hnd]
  unfold Oper.wp at h
  generalize (execOp a.eval o).run P w = r at h
  cases r with
  | ok x w' =>
    cases x with
    | value v => exact h
    | skip => exact h
    | enter f args =>
      refine ⟨fun e => (by cases e), ?_⟩
      have h1 : Calls P f args w' _ := h
      exact CallsIn.inRound l (callsIn_wide.2 h1)
    | row row args =>
      refine ⟨fun e => (by cases e), ?_⟩
      have h1 : Rows P row args w' _ := h
      exact rows_in h1
    | _ => first | exact h | exact h.elim
  | halt x w' =>
    cases x with
    | panic v => exact h
    | _ => first | exact h | exact h.elim
theorem wpAny_in {md : Region.Mode} (hno : ¬ LetsOut Q) (hnd : ∀ (i : Nat) (o : Oper), ops[i]? = some o → ∀ c, o.op ≠ Op.defer c) : ∀ (fuel : Nat) (listed : Array Bool) (a : Act) (w : World), wpAny P md ops Q fuel listed a w → wpAnyIn (Fence.wide.inRound l) n P md ops Q fuel listed a w
  | 0, listed, a, w, h => h
  | fuel + 1, listed, a, w, h => by
    refine ⟨h.1, fun i hi => ?_⟩
    have h2 := h.2 i hi
    unfold wpOp at h2
    unfold wpOpIn
    cases ho : ops[i]? with
    | none => rw [ho] at h2; exact wpAny_in hno hnd fuel _ _ _ h2
    | some o =>
      rw [ho] at h2
      dsimp only at h2 ⊢
      split at h2
      · rename_i hw
        rw [if_pos hw]
        rcases h2 with h2 | h2
        · exact oper_in hno (hnd i o ho) (Oper.wp_mono (fun a w hh => wpAny_in hno hnd fuel _ _ _ hh) h2)
        · exact (hno h2.2).elim
      · rename_i hw
        rw [if_neg hw]
        exact ⟨fun _ _ => trivial, wpAny_in hno hnd fuel _ _ _ h2⟩
def noDefer (o : Oper) : Bool := match o.op with
  | .defer _ => false
  | _ => true
theorem noDefer_all {L : List Oper} (h : L.all noDefer = true) (i : Nat) (o : Oper) (ho : L.toArray[i]? = some o) (c : Call) : o.op ≠ Op.defer c := fun e => by
  have hm : o ∈ L := by
    rw [List.getElem?_toArray] at ho
    exact List.mem_of_getElem? ho
  have := List.all_eq_true.1 h o hm
  rw [noDefer, e] at this
  cases this
theorem wpIn_region_still_tail {id : Nat} {a : Act} {w : World} {L : List Oper} (m : Nat) (hno : ¬ LetsOut Q) (hnd : L.all noDefer = true) (hm : P.follows .mixedOrders = true) (hB : Region.lexTailB .any L.toArray m = true)
    (h : wpStill P L.toArray { w with drawn := w.drawn + 1 } (fun a' => wpList P L.toArray Q (L.drop m) a' { w with drawn := w.drawn + 1 }) (L.take m) a) : (Code.region id L.toArray true).wpIn (Fence.wide.inRound l) n P Q a w := by
  simp only [Region.lexTailB, Bool.and_eq_true, decide_eq_true_eq] at hB
  obtain ⟨⟨⟨⟨hsel, hn⟩, hs⟩, hc⟩, hlex⟩ := hB
  have hn' : m < L.length := by simpa using hn
  have htl : (L.take m).length = m := by simp; omega
  have hdl : (L.drop m).length = L.toArray.size - m := by simp
  have inv0 : HeadInv .any L.toArray m (Array.replicate L.toArray.size false) :=
    ⟨by simp, fun j oj _ hl => (by rw [getD_replicate_false] at hl; cases hl), fun t _ ht => getD_in (by simpa using ht) (getD_replicate_false _ _)⟩
  have H := wpAnyL_lex (md := .any) (g := L.toArray.size - m) hsel hs hc hn (L.take m) 0 _ a (fun j hj => by
    have hj' : j < m := by rw [htl] at hj; exact hj
    simp [hj']) (by simpa using htl) inv0 (by rw [htl]; exact hlex) h
  refine wpIn_region_any hm ?_
  have := wpAny_of_head (Q' := Q) (g := L.toArray.size - m) (fun listed a' hL => by
    have := wpAny_of_seq (md := .any) (Q' := Q) (L.drop m) m listed a' { w with drawn := w.drawn + 1 } (fun j => by simp [List.getElem?_drop]) (by rw [hdl]; exact hL.1) hL.2
    rwa [hdl] at this) _ _ _ H
  rw [htl, show m + (L.toArray.size - m) = L.toArray.size by omega] at this
  exact wpAny_in hno (noDefer_all hnd) _ _ _ _ this
end
end Go.Proofs.Ytpoopogojocolaa.P
namespace Go.Proofs.Ytpoopogojocolaa.P
open Go Go.RowKit
set_option linter.unusedVariables false
set_option linter.unusedSimpArgs false
def mark (D : Nat) : Deferred := { target := .collected D, args := #[] }
def Marks (B : Nat) (W : World) (Ds : List Nat) : Prop := Ds.Nodup ∧ ∀ D, D ∈ Ds → B ≤ D ∧ W.heap[D]? = some (.deferred (some []))
theorem marks_nil (B : Nat) (W : World) : Marks B W [] := ⟨List.nodup_nil, fun _ h => by cases h⟩
theorem Marks.grown {B : Nat} {W W' : World} {Ds : List Nat} {row : Option Nat} (h : Marks B W Ds) (hg : W.grownBy W' row) (hr : ∀ k o, row = some k → W.heap[k]? = some o → o ≠ .deferred (some [])) : Marks B W' Ds :=
  ⟨h.1, fun D hD => ⟨(h.2 D hD).1, by
    have h1 := (h.2 D hD).2
    rw [hg.block D (Array.getElem?_eq_some_iff.1 h1).1 (fun e => hr D _ e.symm h1 rfl)]
    exact h1⟩⟩
theorem Marks.grown_at {B : Nat} {W W' : World} {Ds : List Nat} {row : Option Nat} (h : Marks B W Ds) (hg : W.grownBy W' row) (hr : ∀ D, D ∈ Ds → some D ≠ row) : Marks B W' Ds :=
  ⟨h.1, fun D hD => ⟨(h.2 D hD).1, by
    have h1 := (h.2 D hD).2
    rw [hg.block D (Array.getElem?_eq_some_iff.1 h1).1 (hr D hD)]
    exact h1⟩⟩
theorem Marks.lt {B : Nat} {W : World} {Ds : List Nat} (h : Marks B W Ds) : ∀ D, D ∈ Ds → D < W.heap.size := fun D hD => (Array.getElem?_eq_some_iff.1 (h.2 D hD).2).1
theorem Marks.below {B : Nat} {W W' : World} {Ds : List Nat} (h : Marks B W Ds) (hb : Below W.heap.size W W') : Marks B W' Ds := h.grown (grown_of_below hb) (fun _ _ e => by cases e)
theorem Marks.cons {B : Nat} {W : World} {Ds : List Nat} {D : Nat} (h : Marks B W Ds) (hB : B ≤ D) (hn : D ∉ Ds) (hD : W.heap[D]? = some (.deferred (some []))) : Marks B W (D :: Ds) :=
  ⟨List.nodup_cons.2 ⟨hn, h.1⟩, fun E hE => by
    rcases List.mem_cons.1 hE with rfl | hE
    · exact ⟨hB, hD⟩
    · exact h.2 E hE⟩
theorem leaves_marks {n B : Nat} {P : Program} {fn : Func} {tmps : Array Value} {R : Ending → World → Prop} (v : Value) (J : World → Prop)
    (hJ : ∀ W D, J W → B ≤ D → W.heap[D]? = some (.deferred (some [])) → J (W.putObj D (.deferred none))) (hres : ∀ W, J W → (results fn tmps).run P W = .ok v W) (hR : ∀ W, J W → R (.returned v) W) :
    ∀ (Ds : List Nat) (W : World), Marks B W Ds → J W → LeavesInM Fence.wide n P fn tmps R (Ds.map mark) .returning W
  | [], W, _, hj => ⟨_, hres W hj, hR W hj⟩
  | D :: Ds, W, hM, hj => by
    have hD := hM.2 D List.mem_cons_self
    refine ⟨by simp, .inl ⟨D, _, rfl, run_takeDeferred hD.2, ?_⟩⟩
    refine leaves_marks v J hJ hres hR Ds _ ⟨(List.nodup_cons.1 hM.1).2, fun E hE => ?_⟩ (hJ W D hj hD.1 hD.2)
    have hE' := hM.2 E (List.mem_cons_of_mem _ hE)
    exact ⟨hE'.1, (World.putObj_heap_other (fun (e : E = D) => (List.nodup_cons.1 hM.1).1 (e ▸ hE))).trans hE'.2⟩
end Go.Proofs.Ytpoopogojocolaa.P
