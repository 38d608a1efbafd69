/- The contracts of slices.Max at whole numbers and of stone's Spares. -/
import Derived.Test.YtpoopogojocolaaZT32
namespace Go.Proofs.Ytpoopogojocolaa.P
open Go.RowKit Go.Proofs.YtpoopogojocolaaW.PrintWords Go.Proofs.YtpoopogojocolaaW.PrintLast Go.Proofs.YtpoopogojocolaaW.PrintMore
attribute [local go_sem] max2_mx min2_mn max_two min_two
set_option linter.unusedVariables false
set_option linter.unusedSimpArgs false
def maxL : List Int → Int
  | [] => 0
  | x :: xs => xs.foldl mx x
set_option maxHeartbeats 4000000 in
set_option maxRecDepth 100000 in
theorem max63 (A : Option Addr) (n c : Nat) (l : List Int) (w : World) (hr : Kd.C (Kd.int .i64) w A n l) (hc : n ≤ c) (hn : 0 < n) :
    Calls Try.prog 63 #[.slice A n c] w fun e w' => e = .returned (.int .i64 (maxL l)) ∧ w = w' := by
  obtain rfl : l.length = n := hr.1
  have HR := Aside0.mk hr
  have hm : l.length ≤ 9223372036854775807 := hr.2.1
  obtain ⟨ad, x0, rfl, hc0, hx0⟩ := C_at (0 : Int) hr 0 hn
  have HX0 : Aside0 (maxL l = (l.drop 1).foldl mx x0) := ⟨by
    have := drop_cons hx0.out
    rw [List.drop_zero] at this
    rw [this]; rfl⟩
  have hc0' : w.cell? ad = some (.int .i64 x0) := by rw [Addr.add_zero'] at hc0; exact hc0
  clear hr
  go_enter Try.func63, Try.ntmps63
  go_wp2
  go_loop [3, 4] (fun m i => ∃ (k : Nat) (v : Int), k ≤ l.length ∧ 1 ≤ k ∧ i = .int .i64 k ∧ m = .int .i64 v ∧ Aside0 ((l.drop k).foldl mx v = maxL l)) (fun _ i => l.length - (intOf i).toNat)
  case atStart => exact ⟨1, x0, by omega, Nat.le_refl _, rfl, rfl, ⟨HX0.out.symm⟩⟩
  case round =>
    obtain ⟨k, v, hk, hk1, rfl, rfl, HE⟩ := hrel
    by_cases hlt : k < l.length
    · obtain ⟨ad', x, had, hcell, hx⟩ := C_at (0 : Int) HR.out k hlt
      obtain rfl : ad = ad' := by injection had
      have HN : Aside0 ((l.drop (k + 1)).foldl mx (mx v x) = maxL l) := ⟨by rw [← HE.out, drop_cons hx.out]; rfl⟩
      clear HE hx had
      go_wp2
      go_round
      case rel => exact ⟨k + 1, _, by omega, by omega, by go_num, rfl, HN⟩
      case measure => simp [intOf]; omega
    · have hkl : Aside0 (k = l.length) := ⟨by omega⟩
      go_wp2
      go_ret
      have h := HE.out
      rw [hkl.out, List.drop_length] at h
      exact ⟨by rw [← h]; rfl, rfl⟩
def warmF (b : Bn) (p : List Int) : Nat → Int → Int
  | 0, n => n
  | k + 1, n => if safeF ⟨b.s, b.li, b.ga, b.fa, b.l, n + 1⟩ true p = true then warmF b p k (n + 1) else n
theorem le_mx (a b : Int) : a ≤ mx a b ∧ b ≤ mx a b := by unfold mx; split <;> omega
theorem warm_bound {s li ga fa : Int} {l : List S73} {p : List Int} {m : Int} (hg : Good s li ga fa l) (hp : p.length = l.length) (h0 : 0 ≤ m) (h1 : m ≤ 100) (h : safeF ⟨s, li, ga, fa, l, m⟩ true p = true) : m ≤ 40 := by
  match p, l, hp, hg, h with
  | [], [], _, hg, _ => exact absurd hg.n1 (by simp)
  | x :: p, y :: l, _, hg, h =>
    have hy := hg.hs y (by simp)
    have hl := hg.l4
    have hga := hg.g1
    have hga4 := hg.g4
    have hfa := hg.f1
    have hfa4 := hg.f4
    have hs0 := hg.s0
    have hsl := hg.sl
    unfold safeF heatsF at h
    simp only [inR, List.any_cons, Bool.not_or, Bool.and_eq_true, Bool.not_eq_true', decide_eq_false_iff_not, Int.not_lt] at h
    have h2 := h.1.2
    have hr : roomF ⟨s, li, ga, fa, y :: l, m⟩ true y = y.f0.f1 + m := by simp only [roomF, if_true]; unfold wrap64; omega
    rw [hr] at h2
    have : y.f0.f1 + m ≤ afterF ⟨s, li, ga, fa, y :: l, m⟩ s (y.f0.f1 + m) x := by
      unfold afterF
      split
      · have := le_mx s (y.f0.f1 + m)
        have h5 : mx s (y.f0.f1 + m) ≤ 200 := by unfold mx; split <;> omega
        dsimp only
        unfold wrap64
        omega
      · exact (le_mx _ _).1
    omega
def stone_Spares.f (a0_0 a0_1 a0_2 a0_3 : Int) (l0_4 : List S73) (l1 : List Int) : Option (Int × Int × Int) :=
  some (if checkedF a0_0 a0_1 a0_2 a0_3 l0_4 l1 = 0 then (wrap64 (a0_1 - maxL (heatsF ⟨a0_0, a0_1, a0_2, a0_3, l0_4, 0⟩ true a0_0 l1 l0_4)), warmF ⟨a0_0, a0_1, a0_2, a0_3, l0_4, 0⟩ l1 60 0, 0) else (0, 0, checkedF a0_0 a0_1 a0_2 a0_3 l0_4 l1))
set_option maxHeartbeats 4000000 in
set_option maxRecDepth 100000 in
theorem stone_Spares.calls (a0_0 : Int) (a0_1 : Int) (a0_2 : Int) (a0_3 : Int) (A0_4 : Option Addr) (c0_4 : Nat) (l0_4 : List (S73)) (A1 : Option Addr) (c1 : Nat) (l1 : List Int) (r1 : Int) (r2 : Int) (r3 : Int) (w : World) (hr0_4 : Kd.C k73 w A0_4 l0_4.length l0_4) (hc0_4 : l0_4.length ≤ c0_4) (hr1 : Kd.C (Kd.int .i64) w A1 l1.length l1) (hc1 : l1.length ≤ c1) (h : stone_Spares.f a0_0 a0_1 a0_2 a0_3 l0_4 l1 = some (r1, r2, r3)) :
    Calls Try.prog 30 #[.agg #[.int .i64 a0_0, .int .i64 a0_1, .int .i64 a0_2, .int .i64 a0_3, .slice A0_4 l0_4.length c0_4], .slice A1 l1.length c1] w fun e w' => e = .returned (.tuple #[.int .i64 r1, .int .i64 r2, .int .i64 r3]) ∧ Below w.heap.size w w' := by
  have HR := Aside0.mk hr0_4
  have HP := Aside0.mk hr1
  have HF := Aside0.mk h
  have HB := Aside0.mk (hb1 w (.cells #[.int .i64 a0_0, .int .i64 a0_1, .int .i64 a0_2, .int .i64 a0_3, .slice A0_4 l0_4.length c0_4] 24))
  have K := Aside0.mk (new_blk w (.cells #[.int .i64 a0_0, .int .i64 a0_1, .int .i64 a0_2, .int .i64 a0_3, .slice A0_4 l0_4.length c0_4] 24))
  clear hr0_4 hr1 h
  go_enter Try.func30, Try.ntmps30
  go_wp2_with fail
  go_step3
  go_wp2_with fail
  with_reducible refine (checked48 a0_0 a0_1 a0_2 a0_3 A0_4 c0_4 l0_4 A1 c1 l1 _ (by exact Kd.C_below HR.out HB.out) hc0_4 (by exact Kd.C_below HP.out HB.out) hc1).mono ?_
  rintro e w1 ⟨(⟨he, rfl⟩ | ⟨he, g, rfl, hbn⟩), hb⟩
  · have HE := Aside0.mk he
    have h1 : (checkedF a0_0 a0_1 a0_2 a0_3 l0_4 l1 == 0) = false := by simpa using he
    have h2 : (checkedF a0_0 a0_1 a0_2 a0_3 l0_4 l1 != 0) = true := by simpa using he
    clear he
    go_wp2
    rw [Exit.noGoto_ret]
    go_ret3
    obtain ⟨rfl, rfl, rfl⟩ : 0 = r1 ∧ 0 = r2 ∧ checkedF a0_0 a0_1 a0_2 a0_3 l0_4 l1 = r3 := by have := HF.out; simpa [stone_Spares.f, HE.out] using this
    exact ⟨rfl, below_step HB.out hb⟩
  · obtain ⟨ho, hs⟩ := checked_open he
    obtain ⟨hg, hp⟩ := open_good ho
    obtain ⟨hr1, hr2, rfl⟩ : wrap64 (a0_1 - maxL (heatsF ⟨a0_0, a0_1, a0_2, a0_3, l0_4, 0⟩ true a0_0 l1 l0_4)) = r1 ∧ warmF ⟨a0_0, a0_1, a0_2, a0_3, l0_4, 0⟩ l1 60 0 = r2 ∧ 0 = r3 := by have := HF.out; simpa [stone_Spares.f, he] using this
    have HR1 := Aside0.mk hr1
    have HR2 := Aside0.mk hr2
    have HS := Aside0.mk hs
    have HPG := Aside0.mk (plan_good hp).1
    have HG := Aside0.mk hg
    have HBN := Aside0.mk hbn
    have HB1 := Aside0.mk (below_step HB.out hb)
    have K1 := Aside0.mk (blk_below K.out hb)
    have hsm : l1.length ≤ 12 := by have := HPG.out; have := HG.out.n2; omega
    clear hg hp he hbn hb ho hr1 hr2 hs K
    go_wp2
    go_step3
    go_wp2
    go_loopw [9] (fun a wr => ∃ (n f : Nat), n + f = 60 ∧ n ≤ 40 ∧ a = .int .i64 n ∧ Aside0 (warmF ⟨a0_0, a0_1, a0_2, a0_3, l0_4, 0⟩ l1 f n = r2) ∧
        Aside0 (wr.heap[w.heap.size]? = some (.cells #[.int .i64 a0_0, .int .i64 a0_1, .int .i64 a0_2, .int .i64 a0_3, .slice A0_4 l0_4.length c0_4] 24 (0, 0))) ∧ Aside0 (BenchAt wr g ⟨a0_0, a0_1, a0_2, a0_3, l0_4, 0⟩ A0_4 c0_4) ∧ Aside0 (Below w.heap.size w wr)) (fun a _ => 60 - (intOf a).toNat)
    case atStart => exact ⟨0, 60, rfl, by omega, rfl, HR2, K1, HBN, HB1⟩
    case round =>
      clear K1 HBN HB1
      obtain ⟨n, f, hnf, hn, rfl, HE, K1, HBN, HB1⟩ := hrel
      obtain ⟨c0, c1', c2, c3, c4⟩ := blk5 K1.out
      obtain ⟨f, rfl⟩ : ∃ m, f = m + 1 := ⟨f - 1, by omega⟩
      have HB2 := Aside0.mk (below_alloc HB1.out (.cells #[.int .i64 a0_0, .int .i64 a0_1, .int .i64 a0_2, .int .i64 a0_3, .slice A0_4 l0_4.length c0_4, .int .i64 ((n : Int) + 1)] 97))
      have HH : Aside0 (BenchAt (wr.alloc (.cells #[.int .i64 a0_0, .int .i64 a0_1, .int .i64 a0_2, .int .i64 a0_3, .slice A0_4 l0_4.length c0_4, .int .i64 ((n : Int) + 1)] 97)) wr.heap.size ⟨a0_0, a0_1, a0_2, a0_3, l0_4, (n : Int) + 1⟩ A0_4 c0_4) := ⟨⟨heap_alloc_new _ _, hc0_4, Kd.C_below HR.out HB2.out⟩⟩
      go_wp2_with fail
      with_reducible refine (safe51 wr.heap.size ⟨a0_0, a0_1, a0_2, a0_3, l0_4, (n : Int) + 1⟩ A0_4 c0_4 A1 l1.length c1 l1 true _ (by exact HH.out) (by exact Kd.C_below HP.out HB2.out) hc1 HPG.out (by omega)).mono ?_
      rintro e w2 ⟨rfl, hb⟩
      have K2 := Aside0.mk (blk_below (blk_alloc K1.out _) hb)
      have HBN2 := Aside0.mk ((HBN.out.below (hb1 _ _)).below hb)
      have HB3 := Aside0.mk (below_step HB2.out hb)
      clear c0 c1' c2 c3 c4 hb HH K1 HBN HB1 HB2
      cases hs : safeF ⟨a0_0, a0_1, a0_2, a0_3, l0_4, (n : Int) + 1⟩ true l1 with
      | true =>
        have hn1 := warm_bound HG.out HPG.out (by omega) (by omega) hs
        have HN : Aside0 (warmF ⟨a0_0, a0_1, a0_2, a0_3, l0_4, 0⟩ l1 f ((n : Int) + 1) = r2) := ⟨by rw [← HE.out, warmF, if_pos hs]⟩
        clear hs
        go_wp2
        go_roundw
        case rel => exact ⟨n + 1, f, by omega, by omega, by go_num, ⟨by rw [← HN.out]; congr 1⟩, K2, HBN2, HB3⟩
        case measure => simp [intOf]; omega
      | false =>
        have HN : Aside0 ((n : Int) = r2) := ⟨by rw [← HE.out, warmF, if_neg (by rw [hs]; decide)]⟩
        clear hs HE
        obtain ⟨c0, c1', c2, c3, c4⟩ := blk5 K2.out
        clear c0 c2 c3 c4
        go_wp2_with fail
        go_region_held3 (fun W => W.cell? ⟨w.heap.size, 1, none⟩ = some (.int .i64 a0_1) ∧ Aside0 (Below w2.heap.size w2 W)) (first | exact ⟨by assumption, ⟨below_drew1 (Below.refl _ _)⟩⟩ | exact ⟨pw_cell_below HB4.out c1', HB4⟩)
          (first
            | (go_at_call 44; with_reducible refine (heats44 g _ A0_4 c0_4 A1 _ c1 l1 true _ (by exact HBN2.out.below (below_drew1 (Below.refl _ _))) (by exact Kd.C_below HP.out (below_drew1 HB3.out)) hc1 HPG.out (by omega)).mono ?_; rintro e w3 ⟨v, rfl, ho, hb⟩; obtain ⟨A3, d3, rfl, hl3, hC3⟩ := Kd.R_reads ho; have HC3 := Aside0.mk hC3; have HB4 := Aside0.mk (below_step (below_drew1 (Below.refl _ _)) hb); clear ho hb hC3)
            | (go_at_call 63; with_reducible refine (max63 A3 _ d3 _ _ (by exact HC3.out) hl3 (by rw [heatsF_length _ _ _ _ _ HPG.out]; have := HG.out.n1; have := HPG.out; omega)).mono ?_; rintro e w4 ⟨rfl, rfl⟩))
        have hln : 12 ≥ 0 := by omega
        go_wp2
        rw [Exit.noGoto_ret]
        go_ret3
        exact ⟨by rw [← HR1.out, ← HN.out, ← IntWalk.i64_left]; rfl, below_step HB3.out HB4.out⟩
end Go.Proofs.Ytpoopogojocolaa.P
