/- The contracts of stone's within and CheckMill: a mill's error is checkMillF of its numbers and hours. -/
import Derived.Test.YtpoopogojocolaaZT03
namespace Go.Proofs.Ytpoopogojocolaa.P
open Go.RowKit Go.Proofs.YtpoopogojocolaaW.PrintWords Go.Proofs.YtpoopogojocolaaW.PrintLast Go.Proofs.YtpoopogojocolaaW.PrintMore
attribute [local go_sem] max2_mx min2_mn max_two min_two
set_option linter.unusedVariables false
set_option linter.unusedSimpArgs false
def inR (lo hi : Int) (l : List Int) : Bool := !(l.any fun n => decide (n < lo) || decide (hi < n))
theorem within1 (lo hi : Int) (B C : Nat) (w : World) (x : Int) (h1 : w.cell? ⟨B, 0, none⟩ = some (.int .i64 lo)) (h2 : w.cell? ⟨C, 0, none⟩ = some (.int .i64 hi)) :
    Calls Try.prog 77 #[.int .i64 x, .pointer (some ⟨B, 0, none⟩), .pointer (some ⟨C, 0, none⟩)] w fun e w' => e = .returned (.bool (decide (x < lo) || decide (hi < x))) ∧ Below w.heap.size w w' := by
  by_cases hx : x < lo
  · go_enter Try.func77, Try.ntmps77
    go_wp2
    go_ret
    have hx' : x < lo := by omega
    exact ⟨by simp [hx'], Below.refl _ _⟩
  · go_enter Try.func77, Try.ntmps77
    go_wp2
    go_ret
    have hx' : decide (x < lo) = false := by simp; omega
    exact ⟨by rw [hx', Bool.false_or]; rfl, Below.refl _ _⟩
set_option maxHeartbeats 8000000 in
theorem within53 (lo hi : Int) (A : Option Addr) (n c : Nat) (l : List Int) (w : World) (hr : Kd.C (Kd.int .i64) w A n l) (hc : n ≤ c) :
    Calls Try.prog 53 #[.int .i64 lo, .int .i64 hi, .slice A n c] w fun e w' => e = .returned (.bool (inR lo hi l)) ∧ Below w.heap.size w w' := by
  obtain rfl : l.length = n := hr.1
  have h1 : ((w.alloc (.cells #[.int .i64 lo] 2)).alloc (.cells #[.int .i64 hi] 2)).cell? ⟨w.heap.size, 0, none⟩ = some (.int .i64 lo) := by simp
  have h2 : ((w.alloc (.cells #[.int .i64 lo] 2)).alloc (.cells #[.int .i64 hi] 2)).cell? ⟨w.heap.size + 1, 0, none⟩ = some (.int .i64 hi) := by simp
  have HB := Aside0.mk (below_alloc (below_alloc (Below.refl w.heap.size w) (.cells #[.int .i64 lo] 2)) (.cells #[.int .i64 hi] 2))
  have HC := Aside0.mk (contains76 (fun n => decide (n < lo) || decide (hi < n)) 77 #[.pointer (some ⟨w.heap.size, 0, none⟩), .pointer (some ⟨w.heap.size + 1, 0, none⟩)] (enters_of Try.func77 (by kernel_rfl) rfl) A c l
    ((w.alloc (.cells #[.int .i64 lo] 2)).alloc (.cells #[.int .i64 hi] 2))
    (fun W x cs hb hK => by obtain rfl : cs = [.int .i64 x] := hK; exact within1 lo hi _ _ W x (pw_cell_below hb h1) (pw_cell_below hb h2)) (Kd.C_below hr HB.out) hc)
  clear hr h1 h2
  go_enter Try.func53, Try.ntmps53
  go_wp2_with fail
  refine HC.out.mono ?_
  rintro e w1 ⟨rfl, hb⟩
  go_wp2
  go_ret
  exact ⟨rfl, below_step HB.out hb⟩
def strayF (h : S73) : Bool := !(inR 0 40 [h.f0.f0, h.f0.f1]) || (decide (h.f0.f1 < h.f0.f0) || !(inR 1 100 [h.f1]))
set_option maxHeartbeats 4000000 in
theorem stray52 (h : S73) (w : World) :
    Calls Try.prog 52 #[.agg #[.int .i64 h.f0.f0, .int .i64 h.f0.f1, .int .i64 h.f1]] w fun e w' => e = .returned (.bool (strayF h)) ∧ Below w.heap.size w w' := by
  obtain ⟨⟨a, b⟩, n⟩ := h
  dsimp only
  have HB := Aside0.mk (below_alloc (Below.refl w.heap.size w) (.cells #[.int .i64 a, .int .i64 b, .int .i64 n] 73))
  have c0 : (w.alloc (.cells #[.int .i64 a, .int .i64 b, .int .i64 n] 73)).cell? ⟨w.heap.size, 0, none⟩ = some (.int .i64 a) := by simp
  have c1 : (w.alloc (.cells #[.int .i64 a, .int .i64 b, .int .i64 n] 73)).cell? ⟨w.heap.size, 1, none⟩ = some (.int .i64 b) := by simp
  have c2 : (w.alloc (.cells #[.int .i64 a, .int .i64 b, .int .i64 n] 73)).cell? ⟨w.heap.size, 2, none⟩ = some (.int .i64 n) := by simp
  have C := Aside0.mk (And.intro c0 (And.intro c1 c2))
  clear c0 c1 c2
  have HS : Aside0 (strayF ⟨⟨a, b⟩, n⟩ = (!(inR 0 40 [a, b]) || (decide (b < a) || !(inR 1 100 [n])))) := ⟨rfl⟩
  go_enter Try.func52, Try.ntmps52
  go_wp2_with fail
  with_reducible refine (within53 0 40 _ 2 2 [a, b] _ (by exact C_lit2 _ _ _ _ _ (by simp)) (Nat.le_refl 2)).mono ?_
  rintro e w1 ⟨rfl, hb⟩
  have hb0 := below_step (below_alloc (Below.refl _ _) _) hb
  have hb1 := below_step HB.out hb0
  have c0 := pw_cell_below hb0 C.out.1
  have c1 := pw_cell_below hb0 C.out.2.1
  have c2 := pw_cell_below hb0 C.out.2.2
  clear hb C hb0
  have HB1 := Aside0.mk hb1
  clear hb1 HB
  cases hA : inR 0 40 [a, b] with
  | false =>
    have HA := Aside0.mk hA
    clear hA
    go_wp2
    go_ret
    exact ⟨by simp [HS.out, HA.out], HB1.out⟩
  | true =>
    have HA := Aside0.mk hA
    clear hA
    by_cases h2 : b < a
    · go_wp2
      go_ret
      exact ⟨by have : b < a := h2; simp [HS.out, HA.out, this], HB1.out⟩
    · have H2 := Aside0.mk (show decide (b < a) = false by simp; omega)
      go_wp2_with fail
      with_reducible refine (within53 1 100 _ 1 1 [n] _ (by exact C_lit1 _ _ _ _ (by simp)) (Nat.le_refl 1)).mono ?_
      rintro e w2 ⟨rfl, hb⟩
      go_wp2
      go_ret
      exact ⟨by simp [HS.out, HA.out, H2.out], below_step (below_alloc HB1.out _) hb⟩
theorem stray_pred (w : World) : Pred Try.prog 52 #[] k73 aggV strayF w := fun W x cs hb hK => by
  obtain rfl := k73_open hK
  exact stray52 x W
theorem stray_enters : ∀ args w, (callFunc 52 args).run Try.prog w = .ok (.enter 52 args) w := enters_of Try.func52 (by kernel_rfl) rfl
def checkMillF (s li ga fa : Int) (l : List S73) : Int :=
  if inR 1 12 [(l.length : Int)] = false then 6 else if inR 0 40 [s, li] = false ∨ li < s ∨ inR 1 40 [ga, fa] = false ∨ l.any strayF = true then 3 else 0
set_option maxHeartbeats 4000000 in
set_option maxRecDepth 100000 in
theorem checkMill18 (s li ga fa : Int) (A : Option Addr) (c : Nat) (l : List S73) (w : World) (hr : Kd.C k73 w A l.length l) (hc : l.length ≤ c) :
    Calls Try.prog 18 #[.agg #[.int .i64 s, .int .i64 li, .int .i64 ga, .int .i64 fa, .slice A l.length c]] w fun e w' => e = .returned (.int .i64 (checkMillF s li ga fa l)) ∧ Below w.heap.size w w' := by
  have HR := Aside0.mk hr
  have HB := Aside0.mk (hb1 w (.cells #[.int .i64 s, .int .i64 li, .int .i64 ga, .int .i64 fa, .slice A l.length c] 24))
  have K := Aside0.mk (new_blk w (.cells #[.int .i64 s, .int .i64 li, .int .i64 ga, .int .i64 fa, .slice A l.length c] 24))
  clear hr
  go_enter Try.func18, Try.ntmps18
  go_wp2_with fail
  with_reducible refine (within53 1 12 _ 1 1 [(l.length : Int)] _ (by exact C_lit1 _ _ _ _ (by simp)) (Nat.le_refl 1)).mono ?_
  rintro e w1 ⟨rfl, hb⟩
  have hb0 := below_step (hb1 _ _) hb
  have K1 := Aside0.mk (blk_below K.out hb0)
  have HB1 := Aside0.mk (below_step HB.out hb0)
  obtain ⟨c0, c1, c2, c3, c4⟩ := blk5 K1.out
  clear hb hb0 K HB
  cases hA : inR 1 12 [(l.length : Int)] with
  | false =>
    have HA := Aside0.mk hA
    clear hA
    go_wp2
    go_ret
    exact ⟨by simp [checkMillF, HA.out], HB1.out⟩
  | true =>
    have HA := Aside0.mk hA
    clear hA
    go_wp2_with fail
    with_reducible refine (within53 0 40 _ 2 2 [s, li] _ (by exact C_lit2 _ _ _ _ _ (by simp)) (Nat.le_refl 2)).mono ?_
    rintro e w2 ⟨rfl, hb⟩
    have hb0 := below_step (hb1 _ _) hb
    have K2 := Aside0.mk (blk_below K1.out hb0)
    have HB2 := Aside0.mk (below_step HB1.out hb0)
    clear c0 c1 c2 c3 c4
    obtain ⟨c0, c1, c2, c3, c4⟩ := blk5 K2.out
    clear hb hb0 K1 HB1
    cases hA2 : inR 0 40 [s, li] with
    | false =>
      have HA2 := Aside0.mk hA2
      clear hA2
      go_wp2
      go_ret
      exact ⟨by simp [checkMillF, HA.out, HA2.out], HB2.out⟩
    | true =>
      have HA2 := Aside0.mk hA2
      clear hA2
      by_cases h2 : li < s
      · go_wp2
        go_ret
        exact ⟨by have : li < s := h2; simp [checkMillF, HA.out, this], HB2.out⟩
      · have H2 := Aside0.mk h2
        go_wp2_with fail
        with_reducible refine (within53 1 40 _ 2 2 [ga, fa] _ (by exact C_lit2 _ _ _ _ _ (by simp)) (Nat.le_refl 2)).mono ?_
        rintro e w3 ⟨rfl, hb⟩
        have hb0 := below_step (hb1 _ _) hb
        have K3 := Aside0.mk (blk_below K2.out hb0)
        have HB3 := Aside0.mk (below_step HB2.out hb0)
        clear c0 c1 c2 c3 c4
        obtain ⟨c0, c1, c2, c3, c4⟩ := blk5 K3.out
        clear hb hb0 K2 HB2
        cases hA3 : inR 1 40 [ga, fa] with
        | false =>
          have HA3 := Aside0.mk hA3
          clear hA3
          go_wp2
          go_ret
          exact ⟨by simp [checkMillF, HA.out, HA2.out, HA3.out], HB3.out⟩
        | true =>
          have HA3 := Aside0.mk hA3
          clear hA3
          go_wp2_with fail
          with_reducible refine (contains54 strayF 52 #[] stray_enters A c l _ (by exact stray_pred _) (by exact Kd.C_below HR.out HB3.out) hc).mono ?_
          rintro e w4 ⟨rfl, hb⟩
          have HB4 := Aside0.mk (below_step HB3.out hb)
          cases hA4 : l.any strayF with
          | false =>
            have HA4 := Aside0.mk hA4
            clear hA4
            go_wp2
            go_ret
            exact ⟨by simp only [checkMillF, HA.out, HA2.out, HA3.out, HA4.out]; have := H2.out; simp [this], HB4.out⟩
          | true =>
            have HA4 := Aside0.mk hA4
            clear hA4
            go_wp2
            go_ret
            exact ⟨by simp only [checkMillF, HA.out, HA2.out, HA3.out, HA4.out]; simp, HB4.out⟩
end Go.Proofs.Ytpoopogojocolaa.P
