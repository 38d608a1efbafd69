/- What the law's Works calls, at its numbers. -/
import Derived.Test.YtpoopogojocolaaZT08
import Derived.Test.YtpoopogojocolaaZT09
import Derived.Test.YtpoopogojocolaaZT32
import Derived.Test.YtpoopogojocolaaZT33
import Derived.Test.YtpoopogojocolaaZT34
import Derived.Test.YtpoopogojocolaaZT35
import Derived.Test.YtpoopogojocolaaZT36
import Derived.Test.YtpoopogojocolaaZT38
import Derived.Test.YtpoopogojocolaaZT45
import Derived.Test.YtpoopogojocolaaZT17
import Derived.Test.YtpoopogojocolaaZT22
import Derived.Test.YtpoopogojocolaaZT42
namespace Go.Proofs.Ytpoopogojocolaa.P
open Go.RowKit Go.Shelf Go.Proofs.YtpoopogojocolaaW.PrintWords Go.Proofs.YtpoopogojocolaaW.PrintLast Go.Proofs.YtpoopogojocolaaW.PrintMore
attribute [local go_sem] max2_mx min2_mn max_two min_two
set_option linter.unusedVariables false
set_option linter.unusedSimpArgs false
def fiveH : List S73 := [⟨⟨8, 10⟩, 4⟩, ⟨⟨8, 10⟩, 6⟩, ⟨⟨9, 12⟩, 5⟩, ⟨⟨9, 12⟩, 6⟩, ⟨⟨8, 10⟩, 4⟩]
def tabT : List (List Int) := ((stone_Table.f 10 20 6 4 fiveH).getD ([], 0)).1
theorem C_blk (W : World) (g : Nat) (t : TypeId) (xs : List Int) (h : W.heap[g]? = some (.cells (xs.map (Value.int .i64)).toArray t (0, 0))) (hm : xs.length ≤ 9223372036854775807) : Kd.C (Kd.int .i64) W (some ⟨g, 0, none⟩) xs.length xs :=
  C_of_cells (0 : Int) hm fun j x hx => by
    rw [Nat.zero_add, cell_of_row _ _ _ _ _ _ h]
    simp [hx]
theorem e_five20 : senvylaw02_five.f 20 20 = some (10, 20, 6, 4, fiveH) := by kernel_rfl
theorem w_five20 (W : World) : Calls Try.prog 40 #[.int .i64 20] W fun e w' => ∃ A c, e = .returned (.agg #[.int .i64 10, .int .i64 20, .int .i64 6, .int .i64 4, .slice A fiveH.length c]) ∧ Kd.C k73 w' A fiveH.length fiveH ∧ fiveH.length ≤ c ∧ Below W.heap.size W w' := by
  refine (senvylaw02_five.calls 20 20 _ _ _ _ _ W e_five20).mono ?_
  rintro e w' ⟨v, rfl, hr, hb⟩
  obtain ⟨A, c, rfl, hl, hC⟩ := Kd.R_reads hr
  exact ⟨A, c, rfl, hC, hl, hb⟩
theorem e_five17 : senvylaw02_five.f 20 17 = some (10, 17, 6, 4, fiveH) := by kernel_rfl
theorem w_five17 (W : World) : Calls Try.prog 40 #[.int .i64 17] W fun e w' => ∃ A c, e = .returned (.agg #[.int .i64 10, .int .i64 17, .int .i64 6, .int .i64 4, .slice A fiveH.length c]) ∧ Kd.C k73 w' A fiveH.length fiveH ∧ fiveH.length ≤ c ∧ Below W.heap.size W w' := by
  refine (senvylaw02_five.calls 20 17 _ _ _ _ _ W e_five17).mono ?_
  rintro e w' ⟨v, rfl, hr, hb⟩
  obtain ⟨A, c, rfl, hl, hC⟩ := Kd.R_reads hr
  exact ⟨A, c, rfl, hC, hl, hb⟩
theorem e_five11 : senvylaw02_five.f 20 11 = some (10, 11, 6, 4, fiveH) := by kernel_rfl
theorem w_five11 (W : World) : Calls Try.prog 40 #[.int .i64 11] W fun e w' => ∃ A c, e = .returned (.agg #[.int .i64 10, .int .i64 11, .int .i64 6, .int .i64 4, .slice A fiveH.length c]) ∧ Kd.C k73 w' A fiveH.length fiveH ∧ fiveH.length ≤ c ∧ Below W.heap.size W w' := by
  refine (senvylaw02_five.calls 20 11 _ _ _ _ _ W e_five11).mono ?_
  rintro e w' ⟨v, rfl, hr, hb⟩
  obtain ⟨A, c, rfl, hl, hC⟩ := Kd.R_reads hr
  exact ⟨A, c, rfl, hC, hl, hb⟩
theorem e_five21 : senvylaw02_five.f 20 21 = some (10, 21, 6, 4, fiveH) := by kernel_rfl
theorem w_five21 (W : World) : Calls Try.prog 40 #[.int .i64 21] W fun e w' => ∃ A c, e = .returned (.agg #[.int .i64 10, .int .i64 21, .int .i64 6, .int .i64 4, .slice A fiveH.length c]) ∧ Kd.C k73 w' A fiveH.length fiveH ∧ fiveH.length ≤ c ∧ Below W.heap.size W w' := by
  refine (senvylaw02_five.calls 20 21 _ _ _ _ _ W e_five21).mono ?_
  rintro e w' ⟨v, rfl, hr, hb⟩
  obtain ⟨A, c, rfl, hl, hC⟩ := Kd.R_reads hr
  exact ⟨A, c, rfl, hC, hl, hb⟩
theorem e_heats1 : stone_Heats.f 10 20 6 4 fiveH [1, 0, 1, 0, 1] true = some ([16, 12, 18, 14, 20], 0) := by decide +kernel
theorem w_heats1 (W : World) (A4 : Option Addr) (c4 : Nat) (hm : Kd.C k73 W A4 fiveH.length fiveH) (hc : fiveH.length ≤ c4) (g : Nat) (t : TypeId) (hp : W.heap[g]? = some (.cells #[.int .i64 1, .int .i64 0, .int .i64 1, .int .i64 0, .int .i64 1] t (0, 0))) :
    Calls Try.prog 12 #[.agg #[.int .i64 10, .int .i64 20, .int .i64 6, .int .i64 4, .slice A4 fiveH.length c4], .slice (some ⟨g, 0, none⟩) 5 5, .bool true] W fun e w' => ∃ A c, e = .returned (.tuple #[.slice A 5 c, .int .i64 0]) ∧ Kd.C (Kd.int .i64) w' A 5 [16, 12, 18, 14, 20] ∧ 5 ≤ c ∧ Below W.heap.size W w' := by
  refine (stone_Heats.calls 10 20 6 4 A4 c4 fiveH (some ⟨g, 0, none⟩) 5 [1, 0, 1, 0, 1] true [16, 12, 18, 14, 20] 0 W hm hc (C_blk W g t [1, 0, 1, 0, 1] hp (by decide)) (Nat.le_refl _) e_heats1).mono ?_
  rintro e w' ⟨v, rfl, hr, hb⟩
  obtain ⟨A, c, rfl, hl, hC⟩ := Kd.R_reads hr
  exact ⟨A, c, rfl, hC, hl, hb⟩
theorem e_heats2 : stone_Heats.f 10 20 6 4 fiveH [0, 0, 1, 0, 0] false = some ([8, 8, 15, 11, 8], 0) := by decide +kernel
theorem w_heats2 (W : World) (A4 : Option Addr) (c4 : Nat) (hm : Kd.C k73 W A4 fiveH.length fiveH) (hc : fiveH.length ≤ c4) (g : Nat) (t : TypeId) (hp : W.heap[g]? = some (.cells #[.int .i64 0, .int .i64 0, .int .i64 1, .int .i64 0, .int .i64 0] t (0, 0))) :
    Calls Try.prog 12 #[.agg #[.int .i64 10, .int .i64 20, .int .i64 6, .int .i64 4, .slice A4 fiveH.length c4], .slice (some ⟨g, 0, none⟩) 5 5, .bool false] W fun e w' => ∃ A c, e = .returned (.tuple #[.slice A 5 c, .int .i64 0]) ∧ Kd.C (Kd.int .i64) w' A 5 [8, 8, 15, 11, 8] ∧ 5 ≤ c ∧ Below W.heap.size W w' := by
  refine (stone_Heats.calls 10 20 6 4 A4 c4 fiveH (some ⟨g, 0, none⟩) 5 [0, 0, 1, 0, 0] false [8, 8, 15, 11, 8] 0 W hm hc (C_blk W g t [0, 0, 1, 0, 0] hp (by decide)) (Nat.le_refl _) e_heats2).mono ?_
  rintro e w' ⟨v, rfl, hr, hb⟩
  obtain ⟨A, c, rfl, hl, hC⟩ := Kd.R_reads hr
  exact ⟨A, c, rfl, hC, hl, hb⟩
theorem e_plan1 : stone_CheckPlan.f 10 20 6 4 fiveH [0, 1, 0, 1, 0] = some (12, 0) := by decide +kernel
theorem w_plan1 (W : World) (A4 : Option Addr) (c4 : Nat) (hm : Kd.C k73 W A4 fiveH.length fiveH) (hc : fiveH.length ≤ c4) (g : Nat) (t : TypeId) (hp : W.heap[g]? = some (.cells #[.int .i64 0, .int .i64 1, .int .i64 0, .int .i64 1, .int .i64 0] t (0, 0))) :
    Calls Try.prog 14 #[.agg #[.int .i64 10, .int .i64 20, .int .i64 6, .int .i64 4, .slice A4 fiveH.length c4], .slice (some ⟨g, 0, none⟩) 5 5] W fun e w' => e = .returned (.tuple #[.int .i64 12, .int .i64 0]) ∧ Below W.heap.size W w' := by
  refine (stone_CheckPlan.calls 10 20 6 4 A4 c4 fiveH (some ⟨g, 0, none⟩) 5 [0, 1, 0, 1, 0] 12 0 W hm hc (C_blk W g t [0, 1, 0, 1, 0] hp (by decide)) (Nat.le_refl _) e_plan1).mono ?_
  rintro e w' ⟨rfl, hb⟩
  exact ⟨rfl, hb⟩
theorem e_plan2 : stone_CheckPlan.f 10 20 6 4 fiveH [1, 1, 0, 0, 0] = some (0, 18) := by decide +kernel
theorem w_plan2 (W : World) (A4 : Option Addr) (c4 : Nat) (hm : Kd.C k73 W A4 fiveH.length fiveH) (hc : fiveH.length ≤ c4) (g : Nat) (t : TypeId) (hp : W.heap[g]? = some (.cells #[.int .i64 1, .int .i64 1, .int .i64 0, .int .i64 0, .int .i64 0] t (0, 0))) :
    Calls Try.prog 14 #[.agg #[.int .i64 10, .int .i64 20, .int .i64 6, .int .i64 4, .slice A4 fiveH.length c4], .slice (some ⟨g, 0, none⟩) 5 5] W fun e w' => e = .returned (.tuple #[.int .i64 0, .int .i64 18]) ∧ Below W.heap.size W w' := by
  refine (stone_CheckPlan.calls 10 20 6 4 A4 c4 fiveH (some ⟨g, 0, none⟩) 5 [1, 1, 0, 0, 0] 0 18 W hm hc (C_blk W g t [1, 1, 0, 0, 0] hp (by decide)) (Nat.le_refl _) e_plan2).mono ?_
  rintro e w' ⟨rfl, hb⟩
  exact ⟨rfl, hb⟩
theorem e_plan3 : stone_CheckPlan.f 10 20 6 4 fiveH [1, 0] = some (0, 15) := by decide +kernel
theorem w_plan3 (W : World) (A4 : Option Addr) (c4 : Nat) (hm : Kd.C k73 W A4 fiveH.length fiveH) (hc : fiveH.length ≤ c4) (g : Nat) (t : TypeId) (hp : W.heap[g]? = some (.cells #[.int .i64 1, .int .i64 0] t (0, 0))) :
    Calls Try.prog 14 #[.agg #[.int .i64 10, .int .i64 20, .int .i64 6, .int .i64 4, .slice A4 fiveH.length c4], .slice (some ⟨g, 0, none⟩) 2 2] W fun e w' => e = .returned (.tuple #[.int .i64 0, .int .i64 15]) ∧ Below W.heap.size W w' := by
  refine (stone_CheckPlan.calls 10 20 6 4 A4 c4 fiveH (some ⟨g, 0, none⟩) 2 [1, 0] 0 15 W hm hc (C_blk W g t [1, 0] hp (by decide)) (Nat.le_refl _) e_plan3).mono ?_
  rintro e w' ⟨rfl, hb⟩
  exact ⟨rfl, hb⟩
theorem e_plan4 : stone_CheckPlan.f 10 20 6 4 fiveH [1, 0, 1, 0, 2] = some (0, 3) := by decide +kernel
theorem w_plan4 (W : World) (A4 : Option Addr) (c4 : Nat) (hm : Kd.C k73 W A4 fiveH.length fiveH) (hc : fiveH.length ≤ c4) (g : Nat) (t : TypeId) (hp : W.heap[g]? = some (.cells #[.int .i64 1, .int .i64 0, .int .i64 1, .int .i64 0, .int .i64 2] t (0, 0))) :
    Calls Try.prog 14 #[.agg #[.int .i64 10, .int .i64 20, .int .i64 6, .int .i64 4, .slice A4 fiveH.length c4], .slice (some ⟨g, 0, none⟩) 5 5] W fun e w' => e = .returned (.tuple #[.int .i64 0, .int .i64 3]) ∧ Below W.heap.size W w' := by
  refine (stone_CheckPlan.calls 10 20 6 4 A4 c4 fiveH (some ⟨g, 0, none⟩) 5 [1, 0, 1, 0, 2] 0 3 W hm hc (C_blk W g t [1, 0, 1, 0, 2] hp (by decide)) (Nat.le_refl _) e_plan4).mono ?_
  rintro e w' ⟨rfl, hb⟩
  exact ⟨rfl, hb⟩
theorem e_safe1 : stone_Safe.f 10 20 6 4 fiveH [1, 0, 1, 0, 1] = some (2, 0) := by decide +kernel
theorem w_safe1 (W : World) (A4 : Option Addr) (c4 : Nat) (hm : Kd.C k73 W A4 fiveH.length fiveH) (hc : fiveH.length ≤ c4) (g : Nat) (t : TypeId) (hp : W.heap[g]? = some (.cells #[.int .i64 1, .int .i64 0, .int .i64 1, .int .i64 0, .int .i64 1] t (0, 0))) :
    Calls Try.prog 16 #[.agg #[.int .i64 10, .int .i64 20, .int .i64 6, .int .i64 4, .slice A4 fiveH.length c4], .slice (some ⟨g, 0, none⟩) 5 5] W fun e w' => e = .returned (.tuple #[.int .i64 2, .int .i64 0]) ∧ Below W.heap.size W w' := by
  refine (stone_Safe.calls 10 20 6 4 A4 c4 fiveH (some ⟨g, 0, none⟩) 5 [1, 0, 1, 0, 1] 2 0 W hm hc (C_blk W g t [1, 0, 1, 0, 1] hp (by decide)) (Nat.le_refl _) e_safe1).mono ?_
  rintro e w' ⟨rfl, hb⟩
  exact ⟨rfl, hb⟩
theorem e_safe2 : stone_Safe.f 10 20 6 4 fiveH [1, 1, 0, 0, 0] = some (0, 0) := by decide +kernel
theorem w_safe2 (W : World) (A4 : Option Addr) (c4 : Nat) (hm : Kd.C k73 W A4 fiveH.length fiveH) (hc : fiveH.length ≤ c4) (g : Nat) (t : TypeId) (hp : W.heap[g]? = some (.cells #[.int .i64 1, .int .i64 1, .int .i64 0, .int .i64 0, .int .i64 0] t (0, 0))) :
    Calls Try.prog 16 #[.agg #[.int .i64 10, .int .i64 20, .int .i64 6, .int .i64 4, .slice A4 fiveH.length c4], .slice (some ⟨g, 0, none⟩) 5 5] W fun e w' => e = .returned (.tuple #[.int .i64 0, .int .i64 0]) ∧ Below W.heap.size W w' := by
  refine (stone_Safe.calls 10 20 6 4 A4 c4 fiveH (some ⟨g, 0, none⟩) 5 [1, 1, 0, 0, 0] 0 0 W hm hc (C_blk W g t [1, 1, 0, 0, 0] hp (by decide)) (Nat.le_refl _) e_safe2).mono ?_
  rintro e w' ⟨rfl, hb⟩
  exact ⟨rfl, hb⟩
theorem e_safe3 : stone_Safe.f 10 17 6 4 fiveH [0, 0, 1, 0, 0] = some (1, 0) := by decide +kernel
theorem w_safe3 (W : World) (A4 : Option Addr) (c4 : Nat) (hm : Kd.C k73 W A4 fiveH.length fiveH) (hc : fiveH.length ≤ c4) (g : Nat) (t : TypeId) (hp : W.heap[g]? = some (.cells #[.int .i64 0, .int .i64 0, .int .i64 1, .int .i64 0, .int .i64 0] t (0, 0))) :
    Calls Try.prog 16 #[.agg #[.int .i64 10, .int .i64 17, .int .i64 6, .int .i64 4, .slice A4 fiveH.length c4], .slice (some ⟨g, 0, none⟩) 5 5] W fun e w' => e = .returned (.tuple #[.int .i64 1, .int .i64 0]) ∧ Below W.heap.size W w' := by
  refine (stone_Safe.calls 10 17 6 4 A4 c4 fiveH (some ⟨g, 0, none⟩) 5 [0, 0, 1, 0, 0] 1 0 W hm hc (C_blk W g t [0, 0, 1, 0, 0] hp (by decide)) (Nat.le_refl _) e_safe3).mono ?_
  rintro e w' ⟨rfl, hb⟩
  exact ⟨rfl, hb⟩
theorem e_most1 : stone_Most.f 10 20 6 4 fiveH = some (13, 0) := by decide +kernel
theorem w_most1 (W : World) (A4 : Option Addr) (c4 : Nat) (hm : Kd.C k73 W A4 fiveH.length fiveH) (hc : fiveH.length ≤ c4) :
    Calls Try.prog 23 #[.agg #[.int .i64 10, .int .i64 20, .int .i64 6, .int .i64 4, .slice A4 fiveH.length c4]] W fun e w' => e = .returned (.tuple #[.int .i64 13, .int .i64 0]) ∧ Below W.heap.size W w' := by
  refine (stone_Most.calls 10 20 6 4 A4 c4 fiveH 13 0 W hm hc e_most1).mono ?_
  rintro e w' ⟨rfl, hb⟩
  exact ⟨rfl, hb⟩
theorem e_best1 : stone_Plan.f 10 20 6 4 fiveH = some ([1, 0, 1, 0, 1], 0) := by decide +kernel
theorem w_best1 (W : World) (A4 : Option Addr) (c4 : Nat) (hm : Kd.C k73 W A4 fiveH.length fiveH) (hc : fiveH.length ≤ c4) :
    Calls Try.prog 25 #[.agg #[.int .i64 10, .int .i64 20, .int .i64 6, .int .i64 4, .slice A4 fiveH.length c4]] W fun e w' => ∃ A c, e = .returned (.tuple #[.slice A 5 c, .int .i64 0]) ∧ Kd.C (Kd.int .i64) w' A 5 [1, 0, 1, 0, 1] ∧ 5 ≤ c ∧ Below W.heap.size W w' := by
  refine (stone_Plan.calls 10 20 6 4 A4 c4 fiveH [1, 0, 1, 0, 1] 0 W hm hc e_best1).mono ?_
  rintro e w' ⟨v, rfl, hr, hb⟩
  obtain ⟨A, c, rfl, hl, hC⟩ := Kd.R_reads hr
  exact ⟨A, c, rfl, hC, hl, hb⟩
theorem e_best2 : stone_Plan.f 10 11 6 4 fiveH = some ([], 13) := by decide +kernel
theorem w_best2 (W : World) (A4 : Option Addr) (c4 : Nat) (hm : Kd.C k73 W A4 fiveH.length fiveH) (hc : fiveH.length ≤ c4) :
    Calls Try.prog 25 #[.agg #[.int .i64 10, .int .i64 11, .int .i64 6, .int .i64 4, .slice A4 fiveH.length c4]] W fun e w' => ∃ A c, e = .returned (.tuple #[.slice A 0 c, .int .i64 13]) ∧ Kd.C (Kd.int .i64) w' A 0 [] ∧ 0 ≤ c ∧ Below W.heap.size W w' := by
  refine (stone_Plan.calls 10 11 6 4 A4 c4 fiveH [] 13 W hm hc e_best2).mono ?_
  rintro e w' ⟨v, rfl, hr, hb⟩
  obtain ⟨A, c, rfl, hl, hC⟩ := Kd.R_reads hr
  exact ⟨A, c, rfl, hC, hl, hb⟩
theorem e_tab1 : stone_Table.f 10 20 6 4 fiveH = some (tabT, 0) := by decide +kernel
theorem w_tab1 (W : World) (A4 : Option Addr) (c4 : Nat) (hm : Kd.C k73 W A4 fiveH.length fiveH) (hc : fiveH.length ≤ c4) :
    Calls Try.prog 38 #[.agg #[.int .i64 10, .int .i64 20, .int .i64 6, .int .i64 4, .slice A4 fiveH.length c4]] W fun e w' => ∃ A c, e = .returned (.tuple #[.slice A tabT.length c, .int .i64 0]) ∧ Kd.C (Kd.slice 2 (Kd.int .i64)) w' A tabT.length tabT ∧ tabT.length ≤ c ∧ Below W.heap.size W w' := by
  refine (stone_Table.calls 10 20 6 4 A4 c4 fiveH tabT 0 W hm hc e_tab1).mono ?_
  rintro e w' ⟨v, rfl, hr, hb⟩
  obtain ⟨A, c, rfl, hl, hC⟩ := Kd.R_reads (Kd.S_R hr)
  exact ⟨A, c, rfl, hC, hl, hb⟩
theorem e_spare1 : stone_Spares.f 10 20 6 4 fiveH [0, 1, 0, 1, 0] = some (2, 2, 0) := by decide +kernel
theorem w_spare1 (W : World) (A4 : Option Addr) (c4 : Nat) (hm : Kd.C k73 W A4 fiveH.length fiveH) (hc : fiveH.length ≤ c4) (g : Nat) (t : TypeId) (hp : W.heap[g]? = some (.cells #[.int .i64 0, .int .i64 1, .int .i64 0, .int .i64 1, .int .i64 0] t (0, 0))) :
    Calls Try.prog 30 #[.agg #[.int .i64 10, .int .i64 20, .int .i64 6, .int .i64 4, .slice A4 fiveH.length c4], .slice (some ⟨g, 0, none⟩) 5 5] W fun e w' => e = .returned (.tuple #[.int .i64 2, .int .i64 2, .int .i64 0]) ∧ Below W.heap.size W w' := by
  refine (stone_Spares.calls 10 20 6 4 A4 c4 fiveH (some ⟨g, 0, none⟩) 5 [0, 1, 0, 1, 0] 2 2 0 W hm hc (C_blk W g t [0, 1, 0, 1, 0] hp (by decide)) (Nat.le_refl _) e_spare1).mono ?_
  rintro e w' ⟨rfl, hb⟩
  exact ⟨rfl, hb⟩
theorem e_late1 : stone_Latest.f 10 20 6 4 fiveH [1, 0, 1, 0, 1] = some ([10, 16, 12, 18, 14], 0) := by decide +kernel
theorem w_late1 (W : World) (A4 : Option Addr) (c4 : Nat) (hm : Kd.C k73 W A4 fiveH.length fiveH) (hc : fiveH.length ≤ c4) (g : Nat) (t : TypeId) (hp : W.heap[g]? = some (.cells #[.int .i64 1, .int .i64 0, .int .i64 1, .int .i64 0, .int .i64 1] t (0, 0))) :
    Calls Try.prog 32 #[.agg #[.int .i64 10, .int .i64 20, .int .i64 6, .int .i64 4, .slice A4 fiveH.length c4], .slice (some ⟨g, 0, none⟩) 5 5] W fun e w' => ∃ A c, e = .returned (.tuple #[.slice A 5 c, .int .i64 0]) ∧ Kd.C (Kd.int .i64) w' A 5 [10, 16, 12, 18, 14] ∧ 5 ≤ c ∧ Below W.heap.size W w' := by
  refine (stone_Latest.calls 10 20 6 4 A4 c4 fiveH (some ⟨g, 0, none⟩) 5 [1, 0, 1, 0, 1] [10, 16, 12, 18, 14] 0 W hm hc (C_blk W g t [1, 0, 1, 0, 1] hp (by decide)) (Nat.le_refl _) e_late1).mono ?_
  rintro e w' ⟨v, rfl, hr, hb⟩
  obtain ⟨A, c, rfl, hl, hC⟩ := Kd.R_reads hr
  exact ⟨A, c, rfl, hC, hl, hb⟩
theorem e_worth1 : stone_Worth.f 10 20 6 4 fiveH = some (0, 0) := by decide +kernel
theorem w_worth1 (W : World) (A4 : Option Addr) (c4 : Nat) (hm : Kd.C k73 W A4 fiveH.length fiveH) (hc : fiveH.length ≤ c4) :
    Calls Try.prog 27 #[.agg #[.int .i64 10, .int .i64 20, .int .i64 6, .int .i64 4, .slice A4 fiveH.length c4]] W fun e w' => e = .returned (.tuple #[.int .i64 0, .int .i64 0]) ∧ Below W.heap.size W w' := by
  refine (stone_Worth.calls 10 20 6 4 A4 c4 fiveH 0 0 W hm hc e_worth1).mono ?_
  rintro e w' ⟨rfl, hb⟩
  exact ⟨rfl, hb⟩
theorem e_worth2 : stone_Worth.f 10 21 6 4 fiveH = some (1, 0) := by decide +kernel
theorem w_worth2 (W : World) (A4 : Option Addr) (c4 : Nat) (hm : Kd.C k73 W A4 fiveH.length fiveH) (hc : fiveH.length ≤ c4) :
    Calls Try.prog 27 #[.agg #[.int .i64 10, .int .i64 21, .int .i64 6, .int .i64 4, .slice A4 fiveH.length c4]] W fun e w' => e = .returned (.tuple #[.int .i64 1, .int .i64 0]) ∧ Below W.heap.size W w' := by
  refine (stone_Worth.calls 10 21 6 4 A4 c4 fiveH 1 0 W hm hc e_worth2).mono ?_
  rintro e w' ⟨rfl, hb⟩
  exact ⟨rfl, hb⟩
theorem of41 (v : Value) (W : World) : Calls Try.prog 41 #[v] W fun e w' => e = .returned v ∧ W = w' := by
  go_enter Try.func41, Try.ntmps41
  go_wp2
  go_ret
  exact ⟨rfl, rfl⟩
theorem longs42 (v : Value) (W : World) : Calls Try.prog 42 #[v] W fun e w' => e = .returned v ∧ W = w' := by
  go_enter Try.func42, Try.ntmps42
  go_wp2
  go_ret
  exact ⟨rfl, rfl⟩
theorem below_drawn0 {W W1 : World} (h : Drawn0 W W1) : Below W.heap.size W W1 := by
  obtain ⟨n, rfl⟩ := h
  exact pw_below_drewN (Below.refl _ _) n
theorem w_eq1 (W : World) (A : Option Addr) (c : Nat) (g : Nat) (t : TypeId) (h : Kd.C (Kd.int .i64) W A 5 [16, 12, 18, 14, 20]) (hc : 5 ≤ c) (hp : W.heap[g]? = some (.cells #[.int .i64 16, .int .i64 12, .int .i64 18, .int .i64 14, .int .i64 20] t (0, 0))) :
    Calls Try.prog 20 #[.slice A 5 c, .slice (some ⟨g, 0, none⟩) 5 5] W fun e w' => e = .returned (.bool true) ∧ Below W.heap.size W w' := by
  refine (senvylaw02_Longs.calls 20 A c [16, 12, 18, 14, 20] (some ⟨g, 0, none⟩) 5 [16, 12, 18, 14, 20] true W h hc (C_blk W g t [16, 12, 18, 14, 20] hp (by decide)) (Nat.le_refl _) (by decide +kernel)).mono ?_
  rintro e w' ⟨rfl, hb⟩
  exact ⟨rfl, below_drawn0 hb⟩
theorem w_eq2 (W : World) (A : Option Addr) (c : Nat) (g : Nat) (t : TypeId) (h : Kd.C (Kd.int .i64) W A 5 [8, 8, 15, 11, 8]) (hc : 5 ≤ c) (hp : W.heap[g]? = some (.cells #[.int .i64 8, .int .i64 8, .int .i64 15, .int .i64 11, .int .i64 8] t (0, 0))) :
    Calls Try.prog 20 #[.slice A 5 c, .slice (some ⟨g, 0, none⟩) 5 5] W fun e w' => e = .returned (.bool true) ∧ Below W.heap.size W w' := by
  refine (senvylaw02_Longs.calls 20 A c [8, 8, 15, 11, 8] (some ⟨g, 0, none⟩) 5 [8, 8, 15, 11, 8] true W h hc (C_blk W g t [8, 8, 15, 11, 8] hp (by decide)) (Nat.le_refl _) (by decide +kernel)).mono ?_
  rintro e w' ⟨rfl, hb⟩
  exact ⟨rfl, below_drawn0 hb⟩
theorem w_eq3 (W : World) (A : Option Addr) (c : Nat) (g : Nat) (t : TypeId) (h : Kd.C (Kd.int .i64) W A 5 [1, 0, 1, 0, 1]) (hc : 5 ≤ c) (hp : W.heap[g]? = some (.cells #[.int .i64 1, .int .i64 0, .int .i64 1, .int .i64 0, .int .i64 1] t (0, 0))) :
    Calls Try.prog 29 #[.slice A 5 c, .slice (some ⟨g, 0, none⟩) 5 5] W fun e w' => e = .returned (.bool true) ∧ Below W.heap.size W w' := by
  refine (senvylaw02_Ints.calls 20 A c [1, 0, 1, 0, 1] (some ⟨g, 0, none⟩) 5 [1, 0, 1, 0, 1] true W h hc (C_blk W g t [1, 0, 1, 0, 1] hp (by decide)) (Nat.le_refl _) (by decide +kernel)).mono ?_
  rintro e w' ⟨rfl, hb⟩
  exact ⟨rfl, below_drawn0 hb⟩
theorem w_eq4 (W : World) (A : Option Addr) (c : Nat) (g : Nat) (t : TypeId) (h : Kd.C (Kd.int .i64) W A 5 [10, 16, 12, 18, 14]) (hc : 5 ≤ c) (hp : W.heap[g]? = some (.cells #[.int .i64 10, .int .i64 16, .int .i64 12, .int .i64 18, .int .i64 14] t (0, 0))) :
    Calls Try.prog 20 #[.slice A 5 c, .slice (some ⟨g, 0, none⟩) 5 5] W fun e w' => e = .returned (.bool true) ∧ Below W.heap.size W w' := by
  refine (senvylaw02_Longs.calls 20 A c [10, 16, 12, 18, 14] (some ⟨g, 0, none⟩) 5 [10, 16, 12, 18, 14] true W h hc (C_blk W g t [10, 16, 12, 18, 14] hp (by decide)) (Nat.le_refl _) (by decide +kernel)).mono ?_
  rintro e w' ⟨rfl, hb⟩
  exact ⟨rfl, below_drawn0 hb⟩
theorem e_ref1 : senvyref02_CheckTable.f 400 10 20 6 4 fiveH tabT = some (13, 0) := by decide +kernel
theorem w_ref1 (W : World) (A4 : Option Addr) (c4 : Nat) (hm : Kd.C k73 W A4 fiveH.length fiveH) (hc : fiveH.length ≤ c4) (A : Option Addr) (c : Nat) (ht : Kd.C (Kd.slice 2 (Kd.int .i64)) W A tabT.length tabT) (htc : tabT.length ≤ c) :
    Calls Try.prog 37 #[.agg #[.int .i64 10, .int .i64 20, .int .i64 6, .int .i64 4, .slice A4 fiveH.length c4], .slice A tabT.length c] W fun e w' => e = .returned (.tuple #[.int .i64 13, .int .i64 0]) ∧ Below W.heap.size W w' :=
  senvyref02_CheckTable.calls 400 10 20 6 4 A4 c4 fiveH A c tabT 13 0 W hm hc ht htc e_ref1
end Go.Proofs.Ytpoopogojocolaa.P
