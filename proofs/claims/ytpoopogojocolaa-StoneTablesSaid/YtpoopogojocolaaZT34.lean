/- The contracts of stone's Most. -/
import Derived.Test.YtpoopogojocolaaZT31
import Derived.Test.YtpoopogojocolaaZT33
namespace Go.Proofs.Ytpoopogojocolaa.P
open Go.RowKit Go.Shelf Go.Proofs.YtpoopogojocolaaW.PrintWords Go.Proofs.YtpoopogojocolaaW.PrintLast Go.Proofs.YtpoopogojocolaaW.PrintMore
attribute [local go_sem] max2_mx min2_mn max_two min_two
set_option linter.unusedVariables false
set_option linter.unusedSimpArgs false
theorem C_nil0 {α : Type} (d : Kd α) (W : World) : Kd.C d W none 0 ([] : List α) := C_nil d W
def plannedF (s li ga fa : Int) (l : List S73) : Int :=
  if openF s li ga fa l [] = 0 then (if safeF ⟨s, li, ga, fa, l, 0⟩ true (List.replicate l.length 0) = true then 0 else 13) else openF s li ga fa l []
theorem planned_good {s li ga fa : Int} {l : List S73} (h : plannedF s li ga fa l = 0) : Good s li ga fa l ∧ safeF ⟨s, li, ga, fa, l, 0⟩ true (List.replicate l.length 0) = true := by
  unfold plannedF at h
  split at h
  · rename_i h0
    split at h
    · rename_i h1; exact ⟨(open_good h0).1, h1⟩
    · omega
  · rename_i h0; exact absurd h h0
theorem good_bench {s li ga fa : Int} {l : List S73} (h : Good s li ga fa l) : GoodB ⟨s, li, ga, fa, l, 0⟩ :=
  ⟨by have := h.s0; have := h.sl; dsimp only; omega, by have := h.l4; dsimp only; omega, by have := h.g1; dsimp only; omega, h.g4, by have := h.f1; dsimp only; omega, h.f4, h.n2, fun x hx => by have := h.hs x hx; omega⟩
theorem good_more {s li ga fa : Int} {l : List S73} (h : Good s li ga fa l) : GoodB ⟨s, li + 1, ga, fa, l, 0⟩ :=
  ⟨by have := h.s0; have := h.sl; dsimp only; omega, by have := h.l4; dsimp only; omega, by have := h.g1; dsimp only; omega, h.g4, by have := h.f1; dsimp only; omega, h.f4, h.n2, fun x hx => by have := h.hs x hx; omega⟩
set_option maxHeartbeats 4000000 in
set_option maxRecDepth 100000 in
theorem planned56 (s li ga fa : Int) (A : Option Addr) (c : Nat) (l : List (S73)) (w : World) (hr : Kd.C k73 w A l.length l) (hc : l.length ≤ c) :
    Calls Try.prog 56 #[.agg #[.int .i64 s, .int .i64 li, .int .i64 ga, .int .i64 fa, .slice A l.length c]] w fun e w' =>
      ((plannedF s li ga fa l ≠ 0 ∧ e = .returned (.tuple #[.pointer none, .slice none 0 0, .int .i64 (plannedF s li ga fa l)])) ∨
       (plannedF s li ga fa l = 0 ∧ ∃ g T, e = .returned (.tuple #[.pointer (some ⟨g, 0, none⟩), .slice (some ⟨T, 0, none⟩) (l.length + 1) (l.length + 1), .int .i64 0]) ∧ BenchAt w' g ⟨s, li, ga, fa, l, 0⟩ A c ∧ TabB w' T (l.length + 1) (tvF ⟨s, li, ga, fa, l, 0⟩) ∧ w.heap.size ≤ T)) ∧ Below w.heap.size w w' := by
  have HR := Aside0.mk hr
  have HB := Aside0.mk (hb1 w (.cells #[.int .i64 s, .int .i64 li, .int .i64 ga, .int .i64 fa, .slice A l.length c] 24))
  have K := Aside0.mk (new_blk w (.cells #[.int .i64 s, .int .i64 li, .int .i64 ga, .int .i64 fa, .slice A l.length c] 24))
  clear hr
  go_enter Try.func56, Try.ntmps56
  go_wp2_with fail
  with_reducible refine (open43 s li ga fa A c l none 0 0 [] _ (by exact Kd.C_below HR.out HB.out) hc (by exact C_nil0 _ _) (Nat.le_refl 0)).mono ?_
  rintro e w1 ⟨(⟨he, rfl⟩ | ⟨he, g, rfl, hbn⟩), hb⟩
  · have HE : Aside0 (plannedF s li ga fa l = openF s li ga fa l []) := ⟨by unfold plannedF; rw [if_neg he]⟩
    have HNE := Aside0.mk he
    have h1 : (openF s li ga fa l [] == 0) = false := by simpa using he
    have h2 : (openF s li ga fa l [] != 0) = true := by simpa using he
    clear he
    go_wp2
    go_ret3
    exact ⟨.inl ⟨by rw [HE.out]; exact HNE.out, by rw [HE.out]; rfl⟩, below_step HB.out hb⟩
  · have hg := (open_good he).1
    have HE := Aside0.mk he
    have HG := Aside0.mk hg
    have HBN := Aside0.mk hbn
    have HB1 := Aside0.mk (below_step HB.out hb)
    have K1 := Aside0.mk (blk_below K.out hb)
    have hn := hg.n2
    have hmk := print_make (P := Try.prog) 25 3 .i64 8 Try.underlying25 info3 (by decide) l.length (by omega)
    obtain ⟨d0, d1, d2, d3, d4⟩ := blk5 K1.out
    have z1 := blk_lt K1.out
    clear hg he hbn hb
    go_wp2_with fail
    have hn2 := hb1 w1 (.cells (madeCells #[.int .i64 0] l.length) 3)
    obtain ⟨B2, e2, he2, hle2, hC2⟩ := Kd.R_reads (R_made .i64 3 w1 w1.heap.size l.length (Nat.le_refl _) (by omega) rfl)
    rw [List.length_replicate] at hC2 he2
    simp only [Value.slice.injEq] at he2
    obtain ⟨e3, e4, e5⟩ := he2
    subst e3
    with_reducible refine (safe51 g _ A c _ l.length l.length (List.replicate l.length 0) true _ (by exact HBN.out.below hn2) (by exact hC2) (Nat.le_refl _) rfl (by omega)).mono ?_
    rintro e w2 ⟨rfl, hb⟩
    have HB2 := Aside0.mk (below_step (below_step HB1.out hn2) hb)
    have HBN2 := Aside0.mk ((HBN.out.below hn2).below hb)
    clear hb hn2 hC2 hle2 e4 e5
    cases hs : safeF ⟨s, li, ga, fa, l, 0⟩ true (List.replicate l.length 0) with
    | false =>
      have HP : Aside0 (plannedF s li ga fa l = 13) := ⟨by unfold plannedF; rw [if_pos HE.out, hs]; rfl⟩
      clear hs
      go_wp2
      go_ret3
      exact ⟨.inl ⟨by rw [HP.out]; decide, by rw [HP.out]; rfl⟩, HB2.out⟩
    | true =>
      have HP : Aside0 (plannedF s li ga fa l = 0) := ⟨by unfold plannedF; rw [if_pos HE.out, hs]; rfl⟩
      clear hs
      go_wp2_with fail
      with_reducible refine (table62 g ⟨s, li, ga, fa, l, 0⟩ A c _ (good_bench HG.out) HBN2.out).mono ?_
      rintro e w3 ⟨T, rfl, ht, hT, hb⟩
      have HT := Aside0.mk ht
      have HB3 := Aside0.mk (below_step HB2.out hb)
      have HBN3 := Aside0.mk (HBN2.out.below hb)
      have HT0 := Aside0.mk (Nat.le_trans HB2.out.size hT)
      clear ht hT hb
      go_wp2
      go_ret3
      exact ⟨.inr ⟨HP.out, g, T, rfl, HBN3.out, HT.out, HT0.out⟩, HB3.out⟩
end Go.Proofs.Ytpoopogojocolaa.P
namespace Go.Proofs.Ytpoopogojocolaa.P
open Go.RowKit Go.Shelf Go.Proofs.YtpoopogojocolaaW.PrintWords Go.Proofs.YtpoopogojocolaaW.PrintLast Go.Proofs.YtpoopogojocolaaW.PrintMore
attribute [local go_sem] max2_mx min2_mn max_two min_two
set_option linter.unusedVariables false
set_option linter.unusedSimpArgs false
def stone_Most.f (a0_0 a0_1 a0_2 a0_3 : Int) (l0_4 : List S73) : Option (Int × Int) :=
  some (if plannedF a0_0 a0_1 a0_2 a0_3 l0_4 = 0 then (tvF ⟨a0_0, a0_1, a0_2, a0_3, l0_4, 0⟩ 0 a0_0.toNat, 0) else (0, plannedF a0_0 a0_1 a0_2 a0_3 l0_4))
set_option maxHeartbeats 4000000 in
set_option maxRecDepth 100000 in
theorem stone_Most.calls (a0_0 : Int) (a0_1 : Int) (a0_2 : Int) (a0_3 : Int) (A0_4 : Option Addr) (c0_4 : Nat) (l0_4 : List (S73)) (r1 : Int) (r2 : Int) (w : World) (hr0_4 : Kd.C k73 w A0_4 l0_4.length l0_4) (hc0_4 : l0_4.length ≤ c0_4) (h : stone_Most.f a0_0 a0_1 a0_2 a0_3 l0_4 = some (r1, r2)) :
    Calls Try.prog 23 #[.agg #[.int .i64 a0_0, .int .i64 a0_1, .int .i64 a0_2, .int .i64 a0_3, .slice A0_4 l0_4.length c0_4]] w fun e w' => e = .returned (.tuple #[.int .i64 r1, .int .i64 r2]) ∧ Below w.heap.size w w' := by
  have HR := Aside0.mk hr0_4
  have HF := Aside0.mk h
  have HB := Aside0.mk (hb1 w (.cells #[.int .i64 a0_0, .int .i64 a0_1, .int .i64 a0_2, .int .i64 a0_3, .slice A0_4 l0_4.length c0_4] 24))
  have K := Aside0.mk (new_blk w (.cells #[.int .i64 a0_0, .int .i64 a0_1, .int .i64 a0_2, .int .i64 a0_3, .slice A0_4 l0_4.length c0_4] 24))
  clear hr0_4 h
  go_enter Try.func23, Try.ntmps23
  go_wp2_with fail
  with_reducible refine (planned56 a0_0 a0_1 a0_2 a0_3 A0_4 c0_4 l0_4 _ (by exact Kd.C_below HR.out HB.out) hc0_4).mono ?_
  rintro e w1 ⟨(⟨he, rfl⟩ | ⟨he, g, T, rfl, hbn, ht, hT⟩), hb⟩
  · have HE := Aside0.mk he
    have h1 : (plannedF a0_0 a0_1 a0_2 a0_3 l0_4 == 0) = false := by simpa using he
    have h2 : (plannedF a0_0 a0_1 a0_2 a0_3 l0_4 != 0) = true := by simpa using he
    clear he
    go_wp2
    go_ret2
    obtain ⟨rfl, rfl⟩ : 0 = r1 ∧ plannedF a0_0 a0_1 a0_2 a0_3 l0_4 = r2 := by have := HF.out; simpa [stone_Most.f, HE.out] using this
    exact ⟨rfl, below_step HB.out hb⟩
  · have HG := (planned_good he).1
    obtain ⟨sn, rfl⟩ := Int.eq_ofNat_of_zero_le HG.s0
    have hs1 : sn < 42 := by have := HG.sl; have := HG.l4; omega
    have hn := HG.n2
    have HE := Aside0.mk he
    obtain ⟨tv, htv⟩ : ∃ tv, Aside0 (tvF ⟨sn, a0_1, a0_2, a0_3, l0_4, 0⟩ 0 sn = tv) := ⟨_, ⟨rfl⟩⟩
    have e1 := ht.at_ 0 sn (by omega) hs1
    rw [htv.out] at e1
    have HB1 := Aside0.mk (below_step HB.out hb)
    obtain ⟨d0, d1, d2, d3, d4⟩ := blk5 (blk_below K.out hb)
    have z1 := blk_lt (blk_below K.out hb)
    have z2 := ht.lt
    rw [Nat.zero_mul, Nat.zero_add] at e1
    clear HG he hbn ht hb hT d1 d2 d3 d4
    go_wp2_with fail
    go_quiet (fail)
    go_wp2
    go_ret2
    obtain ⟨rfl, rfl⟩ : tv = r1 ∧ 0 = r2 := by have := HF.out; simpa [stone_Most.f, HE.out, htv.out] using this
    exact ⟨rfl, pw_below_drewN HB1.out _⟩
end Go.Proofs.Ytpoopogojocolaa.P
