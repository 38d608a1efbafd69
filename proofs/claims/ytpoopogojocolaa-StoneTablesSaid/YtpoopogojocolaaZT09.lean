/- The contracts of stone's Safe, checked and CheckPlan. -/
import Derived.Test.YtpoopogojocolaaZT08
namespace Go.Proofs.Ytpoopogojocolaa.P
open Go.RowKit Go.Proofs.YtpoopogojocolaaW.PrintWords Go.Proofs.YtpoopogojocolaaW.PrintLast Go.Proofs.YtpoopogojocolaaW.PrintMore
attribute [local go_sem] max2_mx min2_mn max_two min_two
set_option linter.unusedVariables false
set_option linter.unusedSimpArgs false
def stone_Safe.f (a0_0 a0_1 a0_2 a0_3 : Int) (l0_4 : List S73) (l1 : List Int) : Option (Int × Int) :=
  some (if openF a0_0 a0_1 a0_2 a0_3 l0_4 [l1] = 0 then (if safeF ⟨a0_0, a0_1, a0_2, a0_3, l0_4, 0⟩ true l1 = true then (2, 0) else if safeF ⟨a0_0, a0_1, a0_2, a0_3, l0_4, 0⟩ false l1 = true then (1, 0) else (0, 0)) else (0, openF a0_0 a0_1 a0_2 a0_3 l0_4 [l1]))
set_option maxHeartbeats 4000000 in
set_option maxRecDepth 100000 in
theorem stone_Safe.calls (a0_0 : Int) (a0_1 : Int) (a0_2 : Int) (a0_3 : Int) (A0_4 : Option Addr) (c0_4 : Nat) (l0_4 : List (S73)) (A1 : Option Addr) (c1 : Nat) (l1 : List Int) (r1 : Int) (r2 : Int) (w : World) (hr0_4 : Kd.C k73 w A0_4 l0_4.length l0_4) (hc0_4 : l0_4.length ≤ c0_4) (hr1 : Kd.C (Kd.int .i64) w A1 l1.length l1) (hc1 : l1.length ≤ c1) (h : stone_Safe.f a0_0 a0_1 a0_2 a0_3 l0_4 l1 = some (r1, r2)) :
    Calls Try.prog 16 #[.agg #[.int .i64 a0_0, .int .i64 a0_1, .int .i64 a0_2, .int .i64 a0_3, .slice A0_4 l0_4.length c0_4], .slice A1 l1.length c1] w fun e w' => e = .returned (.tuple #[.int .i64 r1, .int .i64 r2]) ∧ Below w.heap.size w w' := by
  have HR := Aside0.mk hr0_4
  have HP := Aside0.mk hr1
  have HF := Aside0.mk h
  have HB := Aside0.mk (hb1 w (.cells #[.int .i64 a0_0, .int .i64 a0_1, .int .i64 a0_2, .int .i64 a0_3, .slice A0_4 l0_4.length c0_4] 24))
  have K := Aside0.mk (new_blk w (.cells #[.int .i64 a0_0, .int .i64 a0_1, .int .i64 a0_2, .int .i64 a0_3, .slice A0_4 l0_4.length c0_4] 24))
  clear hr0_4 hr1 h
  go_enter Try.func16, Try.ntmps16
  go_wp2_with fail
  have HB0 := Aside0.mk (below_alloc HB.out (.cells #[.slice A1 l1.length c1] 25))
  with_reducible refine (open43 a0_0 a0_1 a0_2 a0_3 A0_4 c0_4 l0_4 _ 1 1 [l1] _ (by exact Kd.C_below HR.out HB0.out) hc0_4 (by exact C_lit_row _ _ (Kd.C_below HP.out HB.out) hc1 (by simp)) (Nat.le_refl 1)).mono ?_
  rintro e w1 ⟨(⟨he, rfl⟩ | ⟨he, g, rfl, hbn⟩), hb⟩
  · have HE := Aside0.mk he
    have h1 : (openF a0_0 a0_1 a0_2 a0_3 l0_4 [l1] == 0) = false := by simpa using he
    have h2 : (openF a0_0 a0_1 a0_2 a0_3 l0_4 [l1] != 0) = true := by simpa using he
    clear he
    go_wp2
    go_ret2
    obtain ⟨rfl, rfl⟩ : 0 = r1 ∧ openF a0_0 a0_1 a0_2 a0_3 l0_4 [l1] = r2 := by have := HF.out; simpa [stone_Safe.f, HE.out] using this
    exact ⟨rfl, below_step HB0.out hb⟩
  · obtain ⟨hg, hp⟩ := open_good he
    have HE := Aside0.mk he
    have HPG := Aside0.mk (plan_good hp).1
    have HG := Aside0.mk hg
    have HBN := Aside0.mk hbn
    have HB1 := Aside0.mk (below_step HB0.out hb)
    clear hg hp he hbn hb
    go_wp2_with fail
    with_reducible refine (safe51 g _ A0_4 c0_4 A1 l1.length c1 l1 true _ HBN.out (by exact Kd.C_below HP.out HB1.out) hc1 HPG.out (by have := HPG.out; have := HG.out.n2; omega)).mono ?_
    rintro e w2 ⟨rfl, hb⟩
    have HB2 := Aside0.mk (below_step HB1.out hb)
    have HBN2 := Aside0.mk (HBN.out.below hb)
    clear hb
    cases hs : safeF ⟨a0_0, a0_1, a0_2, a0_3, l0_4, 0⟩ true l1 with
    | true =>
      have HS := Aside0.mk hs
      clear hs
      go_wp2
      go_ret2
      obtain ⟨rfl, rfl⟩ : 2 = r1 ∧ 0 = r2 := by have := HF.out; simpa [stone_Safe.f, HE.out, HS.out] using this
      exact ⟨rfl, HB2.out⟩
    | false =>
      have HS := Aside0.mk hs
      clear hs
      go_wp2_with fail
      with_reducible refine (safe51 g _ A0_4 c0_4 A1 l1.length c1 l1 false _ HBN2.out (by exact Kd.C_below HP.out HB2.out) hc1 HPG.out (by have := HPG.out; have := HG.out.n2; omega)).mono ?_
      rintro e w3 ⟨rfl, hb⟩
      have HB3 := Aside0.mk (below_step HB2.out hb)
      cases hs : safeF ⟨a0_0, a0_1, a0_2, a0_3, l0_4, 0⟩ false l1 with
      | true =>
        have HS2 := Aside0.mk hs
        clear hs
        go_wp2
        go_ret2
        obtain ⟨rfl, rfl⟩ : 1 = r1 ∧ 0 = r2 := by have := HF.out; simpa [stone_Safe.f, HE.out, HS.out, HS2.out] using this
        exact ⟨rfl, HB3.out⟩
      | false =>
        have HS2 := Aside0.mk hs
        clear hs
        go_wp2
        go_ret2
        obtain ⟨rfl, rfl⟩ : 0 = r1 ∧ 0 = r2 := by have := HF.out; simpa [stone_Safe.f, HE.out, HS.out, HS2.out] using this
        exact ⟨rfl, HB3.out⟩
def checkedF (a0_0 a0_1 a0_2 a0_3 : Int) (l0_4 : List S73) (l1 : List Int) : Int :=
  if openF a0_0 a0_1 a0_2 a0_3 l0_4 [l1] = 0 then (if safeF ⟨a0_0, a0_1, a0_2, a0_3, l0_4, 0⟩ true l1 = true then 0 else 18) else openF a0_0 a0_1 a0_2 a0_3 l0_4 [l1]
theorem checked_open {a0_0 a0_1 a0_2 a0_3 : Int} {l0_4 : List S73} {l1 : List Int} (h : checkedF a0_0 a0_1 a0_2 a0_3 l0_4 l1 = 0) : openF a0_0 a0_1 a0_2 a0_3 l0_4 [l1] = 0 ∧ safeF ⟨a0_0, a0_1, a0_2, a0_3, l0_4, 0⟩ true l1 = true := by
  unfold checkedF at h
  split at h
  · rename_i h0
    split at h
    · rename_i h1; exact ⟨h0, h1⟩
    · omega
  · rename_i h0; exact absurd h h0
set_option maxHeartbeats 4000000 in
set_option maxRecDepth 100000 in
theorem checked48 (a0_0 : Int) (a0_1 : Int) (a0_2 : Int) (a0_3 : Int) (A0_4 : Option Addr) (c0_4 : Nat) (l0_4 : List (S73)) (A1 : Option Addr) (c1 : Nat) (l1 : List Int) (w : World) (hr0_4 : Kd.C k73 w A0_4 l0_4.length l0_4) (hc0_4 : l0_4.length ≤ c0_4) (hr1 : Kd.C (Kd.int .i64) w A1 l1.length l1) (hc1 : l1.length ≤ c1) :
    Calls Try.prog 48 #[.agg #[.int .i64 a0_0, .int .i64 a0_1, .int .i64 a0_2, .int .i64 a0_3, .slice A0_4 l0_4.length c0_4], .slice A1 l1.length c1] w fun e w' =>
      ((checkedF a0_0 a0_1 a0_2 a0_3 l0_4 l1 ≠ 0 ∧ e = .returned (.tuple #[.pointer none, .int .i64 (checkedF a0_0 a0_1 a0_2 a0_3 l0_4 l1)])) ∨
       (checkedF a0_0 a0_1 a0_2 a0_3 l0_4 l1 = 0 ∧ ∃ g, e = .returned (.tuple #[.pointer (some ⟨g, 0, none⟩), .int .i64 0]) ∧ BenchAt w' g ⟨a0_0, a0_1, a0_2, a0_3, l0_4, 0⟩ A0_4 c0_4)) ∧ Below w.heap.size w w' := by
  have HR := Aside0.mk hr0_4
  have HP := Aside0.mk hr1
  have HB := Aside0.mk (hb1 w (.cells #[.int .i64 a0_0, .int .i64 a0_1, .int .i64 a0_2, .int .i64 a0_3, .slice A0_4 l0_4.length c0_4] 24))
  clear hr0_4 hr1
  go_enter Try.func48, Try.ntmps48
  go_wp2_with fail
  have HB0 := Aside0.mk (below_alloc HB.out (.cells #[.slice A1 l1.length c1] 25))
  with_reducible refine (open43 a0_0 a0_1 a0_2 a0_3 A0_4 c0_4 l0_4 _ 1 1 [l1] _ (by exact Kd.C_below HR.out HB0.out) hc0_4 (by exact C_lit_row _ _ (Kd.C_below HP.out HB.out) hc1 (by simp)) (Nat.le_refl 1)).mono ?_
  rintro e w1 ⟨(⟨he, rfl⟩ | ⟨he, g, rfl, hbn⟩), hb⟩
  · have HE := Aside0.mk he
    have h1 : (openF a0_0 a0_1 a0_2 a0_3 l0_4 [l1] == 0) = false := by simpa using he
    have h2 : (openF a0_0 a0_1 a0_2 a0_3 l0_4 [l1] != 0) = true := by simpa using he
    clear he
    go_wp2
    go_ret2
    have h3 : checkedF a0_0 a0_1 a0_2 a0_3 l0_4 l1 = openF a0_0 a0_1 a0_2 a0_3 l0_4 [l1] := if_neg HE.out
    exact ⟨.inl ⟨by rw [h3]; exact HE.out, by rw [h3]; rfl⟩, below_step HB0.out hb⟩
  · obtain ⟨hg, hp⟩ := open_good he
    have HE := Aside0.mk he
    have HPG := Aside0.mk (plan_good hp).1
    have HG := Aside0.mk hg
    have HBN := Aside0.mk hbn
    have HB1 := Aside0.mk (below_step HB0.out hb)
    clear hg hp he hbn hb
    go_wp2_with fail
    with_reducible refine (safe51 g _ A0_4 c0_4 A1 l1.length c1 l1 true _ HBN.out (by exact Kd.C_below HP.out HB1.out) hc1 HPG.out (by have := HPG.out; have := HG.out.n2; omega)).mono ?_
    rintro e w2 ⟨rfl, hb⟩
    have HB2 := Aside0.mk (below_step HB1.out hb)
    have HBN2 := Aside0.mk (HBN.out.below hb)
    clear hb
    cases hs : safeF ⟨a0_0, a0_1, a0_2, a0_3, l0_4, 0⟩ true l1 with
    | true =>
      have HS := Aside0.mk hs
      clear hs
      go_wp2
      go_ret2
      exact ⟨.inr ⟨by simp [checkedF, HE.out, HS.out], g, rfl, HBN2.out⟩, HB2.out⟩
    | false =>
      have HS := Aside0.mk hs
      clear hs
      go_wp2
      go_ret2
      have h3 : checkedF a0_0 a0_1 a0_2 a0_3 l0_4 l1 = 18 := by simp [checkedF, HE.out, HS.out]
      exact ⟨.inl ⟨by rw [h3]; decide, by rw [h3]; rfl⟩, HB2.out⟩
def grindsF : List Int → List S73 → Int → Int
  | p :: ps, h :: hs, all => grindsF ps hs (wrap64 (all + wrap64 (h.f1 * p)))
  | _, _, all => all
theorem grindsF_nil (hs : List S73) (all : Int) : grindsF [] hs all = all := by cases hs <;> rfl
def stone_CheckPlan.f (a0_0 a0_1 a0_2 a0_3 : Int) (l0_4 : List S73) (l1 : List Int) : Option (Int × Int) :=
  some (if checkedF a0_0 a0_1 a0_2 a0_3 l0_4 l1 = 0 then (grindsF l1 l0_4 0, 0) else (0, checkedF a0_0 a0_1 a0_2 a0_3 l0_4 l1))
set_option maxHeartbeats 4000000 in
set_option maxRecDepth 100000 in
theorem stone_CheckPlan.calls (a0_0 : Int) (a0_1 : Int) (a0_2 : Int) (a0_3 : Int) (A0_4 : Option Addr) (c0_4 : Nat) (l0_4 : List (S73)) (A1 : Option Addr) (c1 : Nat) (l1 : List Int) (r1 : Int) (r2 : Int) (w : World) (hr0_4 : Kd.C k73 w A0_4 l0_4.length l0_4) (hc0_4 : l0_4.length ≤ c0_4) (hr1 : Kd.C (Kd.int .i64) w A1 l1.length l1) (hc1 : l1.length ≤ c1) (h : stone_CheckPlan.f a0_0 a0_1 a0_2 a0_3 l0_4 l1 = some (r1, r2)) :
    Calls Try.prog 14 #[.agg #[.int .i64 a0_0, .int .i64 a0_1, .int .i64 a0_2, .int .i64 a0_3, .slice A0_4 l0_4.length c0_4], .slice A1 l1.length c1] w fun e w' => e = .returned (.tuple #[.int .i64 r1, .int .i64 r2]) ∧ Below w.heap.size w w' := by
  have HR := Aside0.mk hr0_4
  have HP := Aside0.mk hr1
  have HF := Aside0.mk h
  have HB := Aside0.mk (hb1 w (.cells #[.int .i64 a0_0, .int .i64 a0_1, .int .i64 a0_2, .int .i64 a0_3, .slice A0_4 l0_4.length c0_4] 24))
  have K := Aside0.mk (new_blk w (.cells #[.int .i64 a0_0, .int .i64 a0_1, .int .i64 a0_2, .int .i64 a0_3, .slice A0_4 l0_4.length c0_4] 24))
  clear hr0_4 hr1 h
  go_enter Try.func14, Try.ntmps14
  go_wp2_with fail
  with_reducible refine (checked48 a0_0 a0_1 a0_2 a0_3 A0_4 c0_4 l0_4 A1 c1 l1 _ (by exact Kd.C_below HR.out HB.out) hc0_4 (by exact Kd.C_below HP.out HB.out) hc1).mono ?_
  rintro e w1 ⟨(⟨he, rfl⟩ | ⟨he, g, rfl, hbn⟩), hb⟩
  · have HE := Aside0.mk he
    have h1 : (checkedF a0_0 a0_1 a0_2 a0_3 l0_4 l1 == 0) = false := by simpa using he
    have h2 : (checkedF a0_0 a0_1 a0_2 a0_3 l0_4 l1 != 0) = true := by simpa using he
    clear he
    go_wp2
    go_ret2
    obtain ⟨rfl, rfl⟩ : 0 = r1 ∧ checkedF a0_0 a0_1 a0_2 a0_3 l0_4 l1 = r2 := by have := HF.out; simpa [stone_CheckPlan.f, HE.out] using this
    exact ⟨rfl, below_step HB.out hb⟩
  · obtain ⟨ho, _⟩ := checked_open he
    obtain ⟨hg, hp⟩ := open_good ho
    obtain ⟨hr1, rfl⟩ : grindsF l1 l0_4 0 = r1 ∧ 0 = r2 := by have := HF.out; simpa [stone_CheckPlan.f, he] using this
    have HR1 := Aside0.mk hr1
    have HPG := Aside0.mk (plan_good hp).1
    have HG := Aside0.mk hg
    have HB1 := Aside0.mk (below_step HB.out hb)
    have K1 := Aside0.mk (blk_below K.out hb)
    have hsm : l1.length ≤ 12 := by have := HPG.out; have := HG.out.n2; omega
    clear hg hp he hbn hb ho hr1
    go_wp2
    go_loop [8, 22] (fun a i => ∃ (k : Nat) (all : Int), k ≤ l1.length ∧ i = .int .i64 k ∧ a = .int .i64 all ∧ Aside0 (grindsF (l1.drop k) (l0_4.drop k) all = r1)) (fun _ i => l1.length - (intOf i).toNat)
    case atStart => exact ⟨0, 0, Nat.zero_le _, rfl, rfl, ⟨by simpa using HR1.out⟩⟩
    case round =>
      obtain ⟨k, all, hk, rfl, rfl, HE⟩ := hrel
      obtain ⟨c0, c1', c2, c3, c4⟩ := blk5 K1.out
      by_cases hlt : k < l1.length
      · have hlt2 : k < l0_4.length := by have := HPG.out; omega
        obtain ⟨ad, x, rfl, hcell, hx⟩ := C_at (0 : Int) (Kd.C_below HP.out HB1.out) k hlt
        obtain ⟨ad2, y, cs, rfl, hy', hK, hcs⟩ := C_elem z73 (Kd.C_below HR.out HB1.out) k hlt2
        have hk0 := k73_open hK
        subst hk0
        have hy2 : w1.cell? ⟨(ad2.add (k * 3)).block, (ad2.add (k * 3)).off + 2, none⟩ = some (.int .i64 y.f1) := by rw [← add_field _ _ 2 (by omega)]; exact hcs 2 _ rfl
        have HN : Aside0 (grindsF (l1.drop (k + 1)) (l0_4.drop (k + 1)) (wrap64 (all + wrap64 (y.f1 * x))) = r1) := ⟨by rw [← HE.out, drop_cons hx.out, drop_cons hy']; rfl⟩
        clear hK hcs hy' hx HE
        go_wp2
        go_round
        case rel => exact ⟨k + 1, _, by omega, by go_num, rfl, HN⟩
        case measure => simp [intOf]; omega
      · have hkl : Aside0 (k = l1.length) := ⟨by omega⟩
        go_wp2
        go_ret2
        have h := HE.out
        rw [hkl.out, List.drop_length, grindsF_nil] at h
        subst h
        exact ⟨rfl, HB1.out⟩
end Go.Proofs.Ytpoopogojocolaa.P
