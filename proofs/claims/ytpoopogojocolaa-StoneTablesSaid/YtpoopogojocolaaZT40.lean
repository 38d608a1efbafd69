/- The contracts of the predicates of stone's CheckTable. -/
import Derived.Test.YtpoopogojocolaaZT08
namespace Go.Proofs.Ytpoopogojocolaa.P
open Go.RowKit Go.Proofs.YtpoopogojocolaaW.PrintWords Go.Proofs.YtpoopogojocolaaW.PrintLast Go.Proofs.YtpoopogojocolaaW.PrintMore
attribute [local go_sem] max2_mx min2_mn max_two min_two
set_option linter.unusedVariables false
set_option linter.unusedSimpArgs false
def lenF (li : Int) (l : List Int) : Bool := decide ((l.length : Int) ≠ li + 1)
def farF (l : List Int) : Bool := !inR 0 1200 l
theorem len_pred (mb : Nat) (s li ga fa : Int) (v : Value) (w : World) (h0 : 0 ≤ li) (h1 : li ≤ 40) (hm : w.heap[mb]? = some (.cells #[.int .i64 s, .int .i64 li, .int .i64 ga, .int .i64 fa, v] 24 (0, 0))) :
    Pred Try.prog 67 #[.pointer (some ⟨mb, 0, none⟩)] (Kd.slice 2 (Kd.int .i64)) one (lenF li) w := fun W x cs hb hK => by
  obtain ⟨A, c, rfl, hc, hC⟩ := hK
  have hx : x.length ≤ 9223372036854775807 := hC.2.1
  obtain ⟨c0, c1, c2, c3, c4⟩ := blk5 (blk_below hm hb)
  have hsum : IntKind.i64.wrap (li + 1) = li + 1 := by rw [IntWalk.i64_left]; unfold wrap64; omega
  simp only [one]
  go_enter Try.func67, Try.ntmps67
  go_wp2
  go_ret
  refine ⟨?_, Below.refl _ _⟩
  have e : lenF li x = ((x.length : Int) != li + 1) := by
    unfold lenF
    by_cases h : (x.length : Int) = li + 1 <;> simp [h]
  rw [e]
  rfl
theorem far_pred (w : World) : Pred Try.prog 68 #[] (Kd.slice 2 (Kd.int .i64)) one farF w := fun W x cs hb hK => by
  obtain ⟨A, c, rfl, hc, hC⟩ := hK
  simp only [one]
  go_enter Try.func68, Try.ntmps68
  go_wp2_with fail
  refine (within53 0 1200 A x.length c x _ hC hc).mono ?_
  rintro e w2 ⟨rfl, hb2⟩
  have HB2 := Aside0.mk hb2
  clear hb2
  go_wp2
  go_ret
  exact ⟨rfl, HB2.out⟩
theorem len_enters : ∀ args w, (callFunc 67 args).run Try.prog w = .ok (.enter 67 args) w := enters_of Try.func67 (by kernel_rfl) rfl
theorem far_enters : ∀ args w, (callFunc 68 args).run Try.prog w = .ok (.enter 68 args) w := enters_of Try.func68 (by kernel_rfl) rfl
end Go.Proofs.Ytpoopogojocolaa.P
