/- The contracts of stone's CheckMill and of the library's Clone at rows of numbers. -/
import Derived.Test.YtpoopogojocolaaZT10
import Derived.Test.YtpoopogojocolaaZT12
namespace Go.Proofs.Ytpoopogojocolaa.P
open Go.RowKit Go.Proofs.YtpoopogojocolaaW.PrintWords Go.Proofs.YtpoopogojocolaaW.PrintLast Go.Proofs.YtpoopogojocolaaW.PrintMore
attribute [local go_sem] max2_mx min2_mn max_two min_two
set_option linter.unusedVariables false
set_option linter.unusedSimpArgs false
set_option maxHeartbeats 4000000 in
set_option maxRecDepth 100000 in
theorem clone70 (ad : Addr) (n c : Nat) (l : List Int) (w : World) (hr : Kd.C (Kd.int .i64) w (some ad) n l) (hsm : n ≤ 1000) :
    Calls Try.prog 70 #[.slice (some ad) n c] w fun e w' => ∃ v, e = .returned v ∧ Kd.R (Kd.int .i64) 2 w' w.heap.size (fun _ => True) v l ∧ Below w.heap.size w w' := by
  have HR := Aside0.mk hr
  clear hr
  have he : ∀ W, (binOp BinOp.eql 31 (.slice (some ad) n c) (.slice none 0 0)).run Try.prog W = .ok (.bool false) W := fun W => by
    have h1 : (Op.equalIn Op.maxDepth 31 (.slice (some ad) n c) (.slice none 0 0)).run Try.prog W = .ok false W := by
      rw [show Op.maxDepth = 9999 + 1 from rfl, Op.equalIn]
      simp only [Sem.run_bind, run_underlying (P := Try.prog) Try.underlying31, Result.andThen_ok]
      rfl
    simp [binOp, Op.equal, h1, Result.andThen]
  have HB := Aside0.mk (hb1 w (.cells #[] 2))
  have HE : Aside0 (Kd.R (Kd.int .i64) 2 (w.alloc (.cells #[] 2)) w.heap.size (fun _ => True) (.slice (some ⟨w.heap.size, 0, none⟩) 0 0) []) := ⟨by
    have h0 := R_made .i64 2 w w.heap.size 0 (Nat.le_refl _) (by omega) rfl
    rw [show madeCells #[Value.int .i64 0] 0 = #[] from Array.eq_empty_of_size_eq_zero (size_madeCells _ _)] at h0
    exact h0⟩
  go_enter Try.func70, Try.ntmps70
  go_wp2_with (at_builtin; refine Kd.R_append_row (Value.int .i64) (0 : Int) (w0 := w) w.heap.size rfl _ _ 31 2 (.int .i64 0) 8 rfl Try.underlying31 info2 rfl (by omega) (.slice (some ⟨w.heap.size, 0, none⟩) 0 0) [] l (some ad) n c (fun _ => True) rfl rfl (fun _ _ => trivial) HE.out (Kd.C_below HR.out HB.out) HB.out HB.out.size (by simp; omega) ?_; intro v2 w2 ho2 hb2 hg2 hat2; rw [List.nil_append] at ho2; have HO2 := Aside0.mk ho2; have HB2 := Aside0.mk hb2; clear ho2 hb2 hg2 hat2)
  go_ret
  exact ⟨_, rfl, HO2.out, HB2.out⟩
end Go.Proofs.Ytpoopogojocolaa.P
