/- What the walks of this seat's loops over a function value share: what a round keeps, by the types of blocks. No condition: it tells nothing of the program. -/
import Derived.RangeFuncNested
import Derived.RangeFuncBound
import Derived.RangeFuncCalls
import Derived.RangeFuncLeaves
import Derived.Shelf.Abstract
import Derived.Shelf.RegionOpen
import Derived.WalkKit
import Derived.OwnWalkIn
import Derived.TacticsInMore
import Derived.LoopNIn
import Derived.LoopIn
import Derived.Maps.OwnIn
import Derived.Test.YtpoopogojocolaaZT07
namespace Go.Proofs.Ytpoopogojocolaa.P
open Go.RowKit Go.Shelf Go.Proofs.YtpoopogojocolaaW.PrintWords Go.Proofs.YtpoopogojocolaaW.PrintLast Go.Proofs.YtpoopogojocolaaW.PrintMore
set_option linter.unusedVariables false
set_option linter.unusedSimpArgs false
theorem cell_lt {W : World} {a : Addr} {v : Value} (h : W.cell? a = some v) : a.block < W.heap.size := by
  by_cases hl : a.block < W.heap.size
  · exact hl
  · have : W.heap[a.block]? = none := by simp; omega
    simp [World.cell?, this] at h
theorem grown_of_below {W W1 : World} (h : Below W.heap.size W W1) : W.grownBy W1 none := ⟨h.os, h.tape, h.output, h.size, fun i hi _ => h.block i hi⟩
theorem R_appendIn {F : Fence} {nF : Nat} {P : Program} {ops : Array Oper} {rest : List Oper} {o : Oper} {a : Act} {Q : Exit → Act → World → Prop} {α : Type} (d : Kd α) {w0 W : World} (base : Nat) (hgd : o.guard = none) (s x : Operand) (t e : TypeId) (z : Value) (bytes : Nat)
    (ho : o.op = .call { callee := .builtin .append, args := #[s, x], argTypes := #[t, t] })
    (ht : P.underlying t = some (.slice e)) (hinfo : (P.info? e).map (fun i => (i.zero, i.size, i.bytes)) = some (some z, d.sz, bytes)) (hz : z.cells.size = d.sz) (hs0 : 0 < d.sz) (hb0 : 0 < bytes)
    (v : Value) (xs : List α) (p : α) (cs : List Value) (ok okp : Nat → Prop) (hs : a.eval s = v) (hx : a.eval x = .slice (some ⟨W.heap.size, 0, none⟩) 1 1) (hp : d.M W base okp p cs) (hokp : ∀ k, okp k → ok k ∧ some k ≠ v.ownBlock) (hfresh : ∀ k, W.heap.size ≤ k → ok k)
    (HO : d.R e W base ok v xs) (HB : Below base w0 W) (hbase : base ≤ W.heap.size) (hl : (xs.length + 1) * bytes ≤ 140737488355328)
    (h : ∀ v1 w1, d.R e w1 base ok v1 (xs ++ [p]) → Below base w0 w1 → W.grownBy w1 v.ownBlock → (v1.ownBlock = v.ownBlock ∨ ∃ b, v1.ownBlock = some b ∧ W.heap.size ≤ b) → wpListIn F nF P ops Q rest (a.put o.dst v1) w1) :
    wpListIn F nF P ops Q (o :: rest) a (W.alloc (.cells cs.toArray e)) := by
  obtain ⟨h0, inner, hown, hr⟩ := HO
  obtain ⟨i0, hi, hzz⟩ := Option.map_eq_some_iff.1 hinfo
  simp only [Prod.mk.injEq] at hzz
  obtain ⟨hz0, hz1, hz2⟩ := hzz
  have hlen : xs.length + 1 ≤ 140737488355328 := Nat.le_trans (Nat.le_mul_of_pos_right _ hb0) hl
  have hys : cs.length = d.sz := d.K_len (d.K_of_M hp)
  refine wpListIn_append_own_at (w := W.alloc (.cells cs.toArray e)) hgd s x t ho base e i0 z d.sz bytes ht hi hz0 hz1 hz2 hz hs0 v xs.length inner hs (hown.alloc _) ⟨W.heap.size, 0, none⟩ 1 1 cs hx (by rw [hys]; simp)
    (by simpa using World.news_of_block (cs := cs.toArray) (t := e) (fr := (0, 0)) (heap_alloc_new W (.cells cs.toArray e))) (d.K_one (d.K_of_M hp)) (by simp only [maxLen]; omega) hl (by simp; omega) ?_
  intro v1 w1 hown1 hg _ hat
  have hg1 := World.grownBy.trans (World.grownBy_alloc W _ _) hg
  have hat1 : v1.ownBlock = v.ownBlock ∨ ∃ b, v1.ownBlock = some b ∧ W.heap.size ≤ b := by
    rcases hat with hat | hat
    · exact .inl hat
    · exact .inr ⟨_, hat, by simp⟩
  exact h v1 w1 (Kd.R_appended h0 hr hp hokp hfresh hown1 hg1 hat1) ((HB.alloc hbase _).grown hg (by simp; omega) (own_base hown)) hg1 hat1
def KeepT (T : List Nat) (W W' : World) : Prop := ∀ (i : Nat) (c : Array Value) (q : TypeId) (r : Nat × Nat), W.heap[i]? = some (.cells c q r) → q ∉ T → W'.heap[i]? = some (.cells c q r)
section
variable {T : List Nat} {W W1 W2 : World}
theorem KeepT.refl (T : List Nat) (W : World) : KeepT T W W := fun _ _ _ _ h _ => h
theorem KeepT.trans (h : KeepT T W W1) (k : KeepT T W1 W2) : KeepT T W W2 := fun i c q r hi hq => k i c q r (h i c q r hi hq) hq
theorem KeepT.of_below (h : Below W.heap.size W W1) : KeepT T W W1 := fun i c q r hi hq => blk_below hi h
theorem KeepT.grown {row : Option Nat} (h : W.grownBy W1 row) (hr : ∀ k, row = some k → ∀ (c : Array Value) (q : TypeId) (r : Nat × Nat), W.heap[k]? = some (.cells c q r) → q ∈ T) : KeepT T W W1 := fun i c q r hi hq => by
  rw [h.block i (Array.getElem?_eq_some_iff.1 hi).1 (fun e => hq (hr i e.symm c q r hi))]
  exact hi
theorem KeepT.putObj {l : Nat} {o : Obj} (o' : Obj) (h : W.heap[l]? = some o) (ho : o.isCells = false) : KeepT T W (W.putObj l o') := KeepT.grown (grownBy_putObj' W l o') (fun k e c q r hk => by
  cases e
  rw [h] at hk
  cases hk
  cases ho)
theorem KeepT.setCell {g j : Nat} {o : Obj} {v : Value} (h : W.heap[g]? = some o) (ho : ∀ (c : Array Value) (q : TypeId) (r : Nat × Nat), o = .cells c q r → q ∈ T) : KeepT T W (W.setCell ⟨g, j, none⟩ v) := fun i c q r hi hq => by
  have hne : i ≠ g := fun e => hq (ho c q r (by rw [e, h] at hi; injection hi))
  rw [Below.heap_setCell _ _ _ _ hne]
  exact hi
theorem blk_grownC {W W' : World} {row : Option Nat} {g : Nat} {c : Array Value} {q : TypeId} {r : Nat × Nat} (h : W.heap[g]? = some (.cells c q r)) (hg : W.grownBy W' row) (hr : ∀ k, row = some k → ∃ o : Obj, W.heap[k]? = some o ∧ o.isCells = false) : W'.heap[g]? = some (.cells c q r) := by
  rw [hg.block g (Array.getElem?_eq_some_iff.1 h).1 (fun e => by obtain ⟨o, ho, hc⟩ := hr g e.symm; rw [h] at ho; cases ho; cases hc)]
  exact h
theorem R_grown {α : Type} {d : Kd α} {e : Nat} {W W' : World} {base : Nat} {ok : Nat → Prop} {v : Value} {xs : List α} {row : Option Nat} (h : d.R e W base ok v xs) (hg : W.grownBy W' row) (hr : ∀ k, row = some k → ∃ o : Obj, W.heap[k]? = some o ∧ o.isCells = false) : d.R e W' base ok v xs :=
  Kd.R_mono (Kd.R_move (Kd.R_bound h) (fun k hk => by
    obtain ⟨_, _, hl, _, _, cells, hc⟩ := hk
    exact hg.block k hl (fun e => by obtain ⟨o, ho, hc'⟩ := hr k e.symm; rw [hc] at ho; cases ho; cases hc'))) (fun _ hk => hk.1)
end
end Go.Proofs.Ytpoopogojocolaa.P
