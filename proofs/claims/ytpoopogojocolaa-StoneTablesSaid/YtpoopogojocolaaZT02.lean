/- What the walks of this seat's program functions share: small facts on worlds, rows, predicates. No condition: it tells nothing of the program. -/
import Derived.Shelf.GgClosure.Gives
import Derived.Deep.DeepFit
import Derived.WalkSpells
import Derived.WalkLawsBesides
import Derived.Test.YtpoopogojocolaaZT00
namespace Go.Proofs.Ytpoopogojocolaa.P
open Go.RowKit Go.Proofs.YtpoopogojocolaaW.PrintWords Go.Proofs.YtpoopogojocolaaW.PrintLast Go.Proofs.YtpoopogojocolaaW.PrintMore
set_option linter.unusedVariables false
set_option linter.unusedSimpArgs false
theorem max2_mx (k k' : IntKind) (x y : Int) : Builtin.max2 (.int k x) (.int k' y) = pure (.int k (mx x y)) := max2_int k k' x y
theorem min2_mn (k k' : IntKind) (x y : Int) : Builtin.min2 (.int k x) (.int k' y) = pure (.int k (mn x y)) := by rw [min2_int]; rfl
theorem C_at {α : Type} {enc : α → Value} {h1 : ∀ x, (enc x).oneCell' = true} (d : α) {w : World} {A : Option Addr} {n : Nat} {xs : List α} (h : Kd.C (Kd.scalar enc h1) w A n xs) (k : Nat) (hk : k < n) : ∃ ad x, A = some ad ∧ w.cell? (ad.add k) = some (enc x) ∧ Aside0 (xs[k]? = some x) := by
  obtain ⟨ad, e, hc⟩ := (Kd.reads_of_C (d := d) h).at_ (k : Int) (by omega) (by omega)
  have hl : xs.length = n := h.1
  exact ⟨ad, _, e, hc, ⟨by simp [rdOf, List.getD_eq_getElem?_getD, show k < xs.length by omega]⟩⟩
theorem C_elem {α : Type} {d : Kd α} (z : α) {w : World} {A : Option Addr} {n : Nat} {xs : List α} (h : Kd.C d w A n xs) (k : Nat) (hk : k < n) :
    ∃ ad x cs, A = some ad ∧ xs[k]? = some x ∧ d.K w x cs ∧ ∀ j u, cs[j]? = some u → w.cell? (ad.add (k * d.sz + j)) = some u := by
  obtain ⟨ad, c, e, _, hK, hc⟩ := Kd.C_get h z (k : Int) (by omega) (by omega)
  have hl : xs.length = n := h.1
  have e1 : xs.getD k z = xs[k]'(by omega) := by simp [List.getD_eq_getElem?_getD, show k < xs.length by omega]
  refine ⟨ad, xs[k]'(by omega), c, e, List.getElem?_eq_getElem (by omega), ?_, by simpa using hc⟩
  simpa [e1, List.getElem?_eq_getElem (show k < xs.length by omega)] using hK
theorem drop_cons {α : Type} {l : List α} {k : Nat} {x : α} (h : l[k]? = some x) : l.drop k = x :: l.drop (k + 1) := by
  obtain ⟨hk, rfl⟩ := List.getElem?_eq_some_iff.1 h
  exact List.drop_eq_getElem_cons hk
theorem take_snoc' {α : Type} {l : List α} {k : Nat} {x : α} (h : l[k]? = some x) : l.take (k + 1) = l.take k ++ [x] := by
  rw [List.take_add_one, h]; rfl
theorem lt_of_get {α : Type} {l : List α} {k : Nat} {x : α} (h : l[k]? = some x) : k < l.length := (List.getElem?_eq_some_iff.1 h).1
theorem blk1 {W : World} {g : Nat} {t : TypeId} {a : Value} (h : W.heap[g]? = some (.cells #[a] t (0, 0))) : W.cell? ⟨g, 0, none⟩ = some a := blk_cell h 0
theorem blk2 {W : World} {g : Nat} {t : TypeId} {a b : Value} (h : W.heap[g]? = some (.cells #[a, b] t (0, 0))) : W.cell? ⟨g, 0, none⟩ = some a ∧ W.cell? ⟨g, 1, none⟩ = some b := ⟨blk_cell h 0, blk_cell h 1⟩
theorem blk3 {W : World} {g : Nat} {t : TypeId} {a b c : Value} (h : W.heap[g]? = some (.cells #[a, b, c] t (0, 0))) : W.cell? ⟨g, 0, none⟩ = some a ∧ W.cell? ⟨g, 1, none⟩ = some b ∧ W.cell? ⟨g, 2, none⟩ = some c := ⟨blk_cell h 0, blk_cell h 1, blk_cell h 2⟩
theorem blk5 {W : World} {g : Nat} {t : TypeId} {a b c d e : Value} (h : W.heap[g]? = some (.cells #[a, b, c, d, e] t (0, 0))) : W.cell? ⟨g, 0, none⟩ = some a ∧ W.cell? ⟨g, 1, none⟩ = some b ∧ W.cell? ⟨g, 2, none⟩ = some c ∧ W.cell? ⟨g, 3, none⟩ = some d ∧ W.cell? ⟨g, 4, none⟩ = some e :=
  ⟨blk_cell h 0, blk_cell h 1, blk_cell h 2, blk_cell h 3, blk_cell h 4⟩
theorem blk6 {W : World} {g : Nat} {t : TypeId} {a b c d e f : Value} (h : W.heap[g]? = some (.cells #[a, b, c, d, e, f] t (0, 0))) : W.cell? ⟨g, 0, none⟩ = some a ∧ W.cell? ⟨g, 1, none⟩ = some b ∧ W.cell? ⟨g, 2, none⟩ = some c ∧ W.cell? ⟨g, 3, none⟩ = some d ∧ W.cell? ⟨g, 4, none⟩ = some e ∧ W.cell? ⟨g, 5, none⟩ = some f :=
  ⟨blk_cell h 0, blk_cell h 1, blk_cell h 2, blk_cell h 3, blk_cell h 4, blk_cell h 5⟩
theorem new_blk (w : World) (o : Obj) : (w.alloc o).heap[w.heap.size]? = some o := heap_alloc_new w o
theorem hb1 (w : World) (o : Obj) : Below w.heap.size w (w.alloc o) := below_alloc (Below.refl _ _) o
def one : List Value → Value
  | [v] => v
  | _ => undef
def aggV (cs : List Value) : Value := .agg cs.toArray
def Pred {α : Type} (P : Program) (g : Nat) (lb : Array Value) (d : Kd α) (toV : List Value → Value) (p : α → Bool) (w : World) : Prop :=
  ∀ (W : World) (x : α) (cs : List Value), Below w.heap.size w W → d.K W x cs → Calls P g (#[toV cs] ++ lb) W fun e w' => e = .returned (.bool (p x)) ∧ Below W.heap.size W w'
def idx {α : Type} (p : α → Bool) (l : List α) : Int := match l.findIdx? p with | some i => (i : Int) | none => -1
theorem idx_hit {α : Type} (p : α → Bool) (l : List α) (k : Nat) {x : α} (hk : l[k]? = some x) (h : p x = true) (hno : ∀ y, y ∈ l.take k → p y = false) : idx p l = k := by
  unfold idx
  have : l.findIdx? p = some k := by
    rw [List.findIdx?_eq_some_iff_getElem]
    obtain ⟨hl, rfl⟩ := List.getElem?_eq_some_iff.1 hk
    refine ⟨hl, h, fun j hj => ?_⟩
    have := hno (l[j]'(by omega)) (List.mem_take_iff_getElem.2 ⟨j, by omega, rfl⟩)
    simp [this]
  rw [this]
theorem idx_miss {α : Type} (p : α → Bool) (l : List α) (hno : ∀ y, y ∈ l → p y = false) : idx p l = -1 := by
  unfold idx
  have : l.findIdx? p = none := by
    rw [List.findIdx?_eq_none_iff]
    intro x hx
    exact hno x hx
  rw [this]
theorem idx_any {α : Type} (p : α → Bool) (l : List α) : decide (0 ≤ idx p l) = l.any p := by
  unfold idx
  cases h : l.findIdx? p with
  | none =>
    have : l.any p = false := by
      rw [List.any_eq_false]
      intro x hx
      rw [List.findIdx?_eq_none_iff] at h
      simp [h x hx]
    rw [this]; rfl
  | some i =>
    obtain ⟨hi, hp, _⟩ := List.findIdx?_eq_some_iff_getElem.1 h
    have : l.any p = true := List.any_eq_true.2 ⟨_, List.getElem_mem hi, hp⟩
    rw [this]; simp
theorem no_next {α : Type} {p : α → Bool} {l : List α} {k : Nat} {x : α} (hk : l[k]? = some x) (h : p x = false) (hno : ∀ y, y ∈ l.take k → p y = false) : ∀ y, y ∈ l.take (k + 1) → p y = false := by
  intro y hy
  rw [take_snoc' hk] at hy
  rcases List.mem_append.1 hy with hy | hy
  · exact hno y hy
  · rw [List.mem_singleton.1 hy]; exact h
theorem C_of_cells {α : Type} {enc : α → Value} {h1 : ∀ x, (enc x).oneCell' = true} (d : α) {W : World} {g o : Nat} {xs : List α} (hm : xs.length ≤ 9223372036854775807) (h : ∀ j x, xs[j]? = some x → W.cell? ⟨g, o + j, none⟩ = some (enc x)) :
    Kd.C (Kd.scalar enc h1) W (some ⟨g, o, none⟩) xs.length xs := by
  refine Kd.C_of_reads (d := d) ⟨rfl, hm, fun _ => ⟨_, rfl, fun j hj => ?_⟩⟩
  rw [add_at, h j (xs[j]) (List.getElem?_eq_getElem hj)]
  simp [List.getD_eq_getElem?_getD, hj]
theorem C_lit {α : Type} {enc : α → Value} {h1 : ∀ x, (enc x).oneCell' = true} (d : α) (W : World) (t : TypeId) (xs : List α) (hm : xs.length ≤ 9223372036854775807) :
    Kd.C (Kd.scalar enc h1) (W.alloc (.cells (xs.map enc).toArray t)) (some ⟨W.heap.size, 0, none⟩) xs.length xs :=
  C_of_cells d hm fun j x hx => by
    rw [Nat.zero_add, cell_of_row _ _ _ _ _ _ (heap_alloc_new W _)]
    simp [hx]
theorem C_lit1 (k : IntKind) (W : World) (t : TypeId) (x : Int) {g : Nat} (hg : g = W.heap.size) : Kd.C (Kd.int k) (W.alloc (.cells #[.int k x] t)) (some ⟨g, 0, none⟩) 1 [x] := by subst hg; exact C_lit (0 : Int) W t [x] (by simp)
theorem C_lit2 (k : IntKind) (W : World) (t : TypeId) (x y : Int) {g : Nat} (hg : g = W.heap.size) : Kd.C (Kd.int k) (W.alloc (.cells #[.int k x, .int k y] t)) (some ⟨g, 0, none⟩) 2 [x, y] := by subst hg; exact C_lit (0 : Int) W t [x, y] (by simp)
theorem C_nil {α : Type} (d : Kd α) (W : World) : Kd.C d W none ([] : List α).length [] := by
  obtain ⟨A, c, e, _, h⟩ := Kd.R_reads (Kd.R_nil d 0 W 0 (fun _ => True))
  injection e with e1 _ _
  subst e1
  exact h
end Go.Proofs.Ytpoopogojocolaa.P
