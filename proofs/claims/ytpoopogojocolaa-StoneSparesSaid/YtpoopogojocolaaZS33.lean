/- The contracts of stone's Most. -/
import Derived.Test.YtpoopogojocolaaZS32
namespace Go.Proofs.Ytpoopogojocolaa.P
open Go.RowKit Go.Shelf Go.Proofs.YtpoopogojocolaaW.PrintWords Go.Proofs.YtpoopogojocolaaW.PrintLast Go.Proofs.YtpoopogojocolaaW.PrintMore
attribute [local go_sem] max2_mx min2_mn max_two min_two
set_option linter.unusedVariables false
set_option linter.unusedSimpArgs false
def stone_Most.f (a0_0 a0_1 a0_2 a0_3 : Int) (l0_4 : List S73) : Option (Int × Int) :=
  some (if plannedF a0_0 a0_1 a0_2 a0_3 l0_4 = 0 then (tvF ⟨a0_0, a0_1, a0_2, a0_3, l0_4, 0⟩ 0 a0_0.toNat, 0) else (0, plannedF a0_0 a0_1 a0_2 a0_3 l0_4))
set_option maxHeartbeats 4000000 in
set_option maxRecDepth 100000 in
theorem stone_Most.calls (a0_0 : Int) (a0_1 : Int) (a0_2 : Int) (a0_3 : Int) (A0_4 : Option Addr) (c0_4 : Nat) (l0_4 : List (S73)) (r1 : Int) (r2 : Int) (w : World) (hr0_4 : Kd.C k73 w A0_4 l0_4.length l0_4) (hc0_4 : l0_4.length ≤ c0_4) (h : stone_Most.f a0_0 a0_1 a0_2 a0_3 l0_4 = some (r1, r2)) :
    Calls Try.prog 23 #[.agg #[.int .i64 a0_0, .int .i64 a0_1, .int .i64 a0_2, .int .i64 a0_3, .slice A0_4 l0_4.length c0_4]] w fun e w' => e = .returned (.tuple #[.int .i64 r1, .int .i64 r2]) ∧ Below w.heap.size w w' := by
  have HR := Aside0.mk hr0_4
  have HF := Aside0.mk h
  have HB := Aside0.mk (hb1 w (.cells #[.int .i64 a0_0, .int .i64 a0_1, .int .i64 a0_2, .int .i64 a0_3, .slice A0_4 l0_4.length c0_4] 24))
  have K := Aside0.mk (new_blk w (.cells #[.int .i64 a0_0, .int .i64 a0_1, .int .i64 a0_2, .int .i64 a0_3, .slice A0_4 l0_4.length c0_4] 24))
  clear hr0_4 h
  go_enter Try.func23, Try.ntmps23
  go_wp2_with fail
  with_reducible refine (planned56 a0_0 a0_1 a0_2 a0_3 A0_4 c0_4 l0_4 _ (by exact Kd.C_below HR.out HB.out) hc0_4).mono ?_
  rintro e w1 ⟨(⟨he, rfl⟩ | ⟨he, g, T, rfl, hbn, ht, hT⟩), hb⟩
  · have HE := Aside0.mk he
    have h1 : (plannedF a0_0 a0_1 a0_2 a0_3 l0_4 == 0) = false := by simpa using he
    have h2 : (plannedF a0_0 a0_1 a0_2 a0_3 l0_4 != 0) = true := by simpa using he
    clear he
    go_wp2
    go_ret2
    obtain ⟨rfl, rfl⟩ : 0 = r1 ∧ plannedF a0_0 a0_1 a0_2 a0_3 l0_4 = r2 := by have := HF.out; simpa [stone_Most.f, HE.out] using this
    exact ⟨rfl, below_step HB.out hb⟩
  · have HG := (planned_good he).1
    obtain ⟨sn, rfl⟩ := Int.eq_ofNat_of_zero_le HG.s0
    have hs1 : sn < 42 := by have := HG.sl; have := HG.l4; omega
    have hn := HG.n2
    have HE := Aside0.mk he
    obtain ⟨tv, htv⟩ : ∃ tv, Aside0 (tvF ⟨sn, a0_1, a0_2, a0_3, l0_4, 0⟩ 0 sn = tv) := ⟨_, ⟨rfl⟩⟩
    have e1 := ht.at_ 0 sn (by omega) hs1
    rw [htv.out] at e1
    have HB1 := Aside0.mk (below_step HB.out hb)
    obtain ⟨d0, d1, d2, d3, d4⟩ := blk5 (blk_below K.out hb)
    have z1 := blk_lt (blk_below K.out hb)
    have z2 := ht.lt
    rw [Nat.zero_mul, Nat.zero_add] at e1
    clear HG he hbn ht hb hT d1 d2 d3 d4
    go_wp2_with fail
    go_quiet (fail)
    go_wp2
    go_ret2
    obtain ⟨rfl, rfl⟩ : tv = r1 ∧ 0 = r2 := by have := HF.out; simpa [stone_Most.f, HE.out, htv.out] using this
    exact ⟨rfl, pw_below_drewN HB1.out _⟩
end Go.Proofs.Ytpoopogojocolaa.P
