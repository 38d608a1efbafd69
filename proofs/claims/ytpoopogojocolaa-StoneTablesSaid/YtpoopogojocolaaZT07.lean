/- More of what the walks of this seat's program functions share: rows that are made. No condition: it tells nothing of the program. -/
import Derived.Test.YtpoopogojocolaaZT02
namespace Go.Proofs.Ytpoopogojocolaa.P
open Go.RowKit Go.Proofs.YtpoopogojocolaaW.PrintWords Go.Proofs.YtpoopogojocolaaW.PrintLast Go.Proofs.YtpoopogojocolaaW.PrintMore
set_option linter.unusedVariables false
set_option linter.unusedSimpArgs false
theorem R_made (k : IntKind) (e : TypeId) (W : World) (base m : Nat) (hb : base ≤ W.heap.size) (hm : m ≤ 9223372036854775807) {g : Nat} (hg : g = W.heap.size) :
    Kd.R (Kd.int k) e (W.alloc (.cells (madeCells #[.int k 0] m) e)) base (fun _ => True) (.slice (some ⟨g, 0, none⟩) m m) (List.replicate m 0) := by
  subst hg
  exact Kd.R_of_own (own_made_of' (enc := Value.int k) (d := 0) W base e m hb hm) (fun _ _ => trivial)
theorem C_lit_of {α : Type} {d : Kd α} (W : World) (t : TypeId) (x : α) (cs : List Value) (hK : d.K (W.alloc (.cells cs.toArray t)) x cs) {g : Nat} (hg : g = W.heap.size) :
    Kd.C d (W.alloc (.cells cs.toArray t)) (some ⟨g, 0, none⟩) 1 [x] := by
  subst hg
  refine ⟨rfl, by decide, fun _ => ⟨_, rfl, fun j p hj => ⟨cs, d.K_len hK, ?_, fun i u hu => ?_⟩⟩⟩
  · match j, hj with
    | 0, hj => obtain rfl : x = p := by simpa using hj
               exact hK
  · match j, hj with
    | 0, hj => rw [Nat.zero_mul, Nat.zero_add, add_plain, cell_of_row _ _ _ _ _ _ (heap_alloc_new W _)]; simpa using hu
theorem C_lit_row {α : Type} {d : Kd α} {e : Nat} (W : World) (t : TypeId) {B : Option Addr} {n c : Nat} {p : List α} (h : Kd.C d W B n p) (hc : n ≤ c) {g : Nat} (hg : g = W.heap.size) :
    Kd.C (Kd.slice e d) (W.alloc (.cells #[.slice B n c] t)) (some ⟨g, 0, none⟩) 1 [p] := by
  obtain rfl : p.length = n := h.1
  exact C_lit_of (d := Kd.slice e d) W t p [.slice B p.length c] ⟨B, c, rfl, hc, Kd.C_below h (hb1 _ _)⟩ hg
theorem copy_all {α : Type} (xs : List α) (z : α) : xs.take (min xs.length (List.replicate xs.length z).length) ++ (List.replicate xs.length z).drop (min xs.length (List.replicate xs.length z).length) = xs := by simp
theorem R_put_nat {α : Type} {enc : α → Value} {h1 : ∀ x, (enc x).oneCell' = true} {e : Nat} {W : World} {base : Nat} {ok : Nat → Prop} {g n cap : Nat} {xs : List α} (h : Kd.R (Kd.scalar enc h1) e W base ok (.slice (some ⟨g, 0, none⟩) n cap) xs) (k : Nat) (x : α) :
    Kd.R (Kd.scalar enc h1) e (W.setCell ⟨g, k, none⟩ (enc x)) base ok (.slice (some ⟨g, 0, none⟩) n cap) (xs.set k x) := by
  have := Kd.R_putn h (k : Int) x
  simpa using this
end Go.Proofs.Ytpoopogojocolaa.P
