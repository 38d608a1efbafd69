/- The contracts of stone's Latest and Spares. -/
import Derived.Test.YtpoopogojocolaaZT09
namespace Go.Proofs.Ytpoopogojocolaa.P
open Go.RowKit Go.Proofs.YtpoopogojocolaaW.PrintWords Go.Proofs.YtpoopogojocolaaW.PrintLast Go.Proofs.YtpoopogojocolaaW.PrintMore
attribute [local go_sem] max2_mx min2_mn max_two min_two
set_option linter.unusedVariables false
set_option linter.unusedSimpArgs false
def lateF (ga fa li : Int) : List Int → Int
  | [] => li
  | p :: ps => if p = 1 then wrap64 (lateF ga fa li ps - ga) else mn li (wrap64 (lateF ga fa li ps + fa))
def latesF (ga fa li : Int) : List Int → List Int
  | [] => []
  | p :: ps => lateF ga fa li (p :: ps) :: latesF ga fa li ps
def stone_Latest.f (a0_0 a0_1 a0_2 a0_3 : Int) (l0_4 : List S73) (l1 : List Int) : Option (List Int × Int) :=
  some (if checkedF a0_0 a0_1 a0_2 a0_3 l0_4 l1 = 0 then (latesF a0_2 a0_3 a0_1 l1, 0) else ([], checkedF a0_0 a0_1 a0_2 a0_3 l0_4 l1))
theorem set_rep (j : Nat) (x : Int) (xs : List Int) : (List.replicate (j + 1) 0 ++ xs).set j x = List.replicate j 0 ++ x :: xs := by
  rw [List.replicate_succ', List.append_assoc, List.set_append_right _ _ (by simp)]
  simp
set_option maxHeartbeats 4000000 in
set_option maxRecDepth 100000 in
theorem stone_Latest.calls (a0_0 : Int) (a0_1 : Int) (a0_2 : Int) (a0_3 : Int) (A0_4 : Option Addr) (c0_4 : Nat) (l0_4 : List (S73)) (A1 : Option Addr) (c1 : Nat) (l1 : List Int) (r1 : List Int) (r2 : Int) (w : World) (hr0_4 : Kd.C k73 w A0_4 l0_4.length l0_4) (hc0_4 : l0_4.length ≤ c0_4) (hr1 : Kd.C (Kd.int .i64) w A1 l1.length l1) (hc1 : l1.length ≤ c1) (h : stone_Latest.f a0_0 a0_1 a0_2 a0_3 l0_4 l1 = some (r1, r2)) :
    Calls Try.prog 32 #[.agg #[.int .i64 a0_0, .int .i64 a0_1, .int .i64 a0_2, .int .i64 a0_3, .slice A0_4 l0_4.length c0_4], .slice A1 l1.length c1] w fun e w' => ∃ v0_ : Value, e = .returned (.tuple #[v0_, .int .i64 r2]) ∧ Kd.R (Kd.int .i64) 2 w' w.heap.size (fun _ => True) v0_ r1 ∧ Below w.heap.size w w' := by
  have HR := Aside0.mk hr0_4
  have HP := Aside0.mk hr1
  have HF := Aside0.mk h
  have HB := Aside0.mk (hb1 w (.cells #[.int .i64 a0_0, .int .i64 a0_1, .int .i64 a0_2, .int .i64 a0_3, .slice A0_4 l0_4.length c0_4] 24))
  have K := Aside0.mk (new_blk w (.cells #[.int .i64 a0_0, .int .i64 a0_1, .int .i64 a0_2, .int .i64 a0_3, .slice A0_4 l0_4.length c0_4] 24))
  clear hr0_4 hr1 h
  go_enter Try.func32, Try.ntmps32
  go_wp2_with fail
  with_reducible refine (checked48 a0_0 a0_1 a0_2 a0_3 A0_4 c0_4 l0_4 A1 c1 l1 _ (by exact Kd.C_below HR.out HB.out) hc0_4 (by exact Kd.C_below HP.out HB.out) hc1).mono ?_
  rintro e w1 ⟨(⟨he, rfl⟩ | ⟨he, g, rfl, hbn⟩), hb⟩
  · have HE := Aside0.mk he
    have h1 : (checkedF a0_0 a0_1 a0_2 a0_3 l0_4 l1 == 0) = false := by simpa using he
    have h2 : (checkedF a0_0 a0_1 a0_2 a0_3 l0_4 l1 != 0) = true := by simpa using he
    clear he
    go_wp2
    go_ret2
    obtain ⟨rfl, rfl⟩ : [] = r1 ∧ checkedF a0_0 a0_1 a0_2 a0_3 l0_4 l1 = r2 := by have := HF.out; simpa [stone_Latest.f, HE.out] using this
    exact ⟨_, rfl, Kd.R_nil _ _ _ _ _, below_step HB.out hb⟩
  · obtain ⟨ho, _⟩ := checked_open he
    obtain ⟨hg, hp⟩ := open_good ho
    obtain ⟨hr1, rfl⟩ : latesF a0_2 a0_3 a0_1 l1 = r1 ∧ 0 = r2 := by have := HF.out; simpa [stone_Latest.f, he] using this
    have HR1 := Aside0.mk hr1
    have HPG := Aside0.mk (plan_good hp).1
    have HG := Aside0.mk hg
    have HB1 := Aside0.mk (below_step HB.out hb)
    have K1 := Aside0.mk (blk_below K.out hb)
    have hsm : l1.length ≤ 12 := by have := HPG.out; have := HG.out.n2; omega
    have hz0 := Aside0.mk (blk_lt K1.out)
    clear hg hp he hbn hb ho hr1 K
    obtain ⟨c0, c1', c2, c3, c4⟩ := blk5 K1.out
    have hz := blk_lt K1.out
    have hmk := print_make (P := Try.prog) 31 2 .i64 8 Try.underlying31 info2 (by decide) l1.length (by omega)
    go_wp2
    go_loopw [9, 28] (fun a i wr => ∃ (k j : Nat), k + j = l1.length ∧ i = .int .i64 k ∧ a = .int .i64 (lateF a0_2 a0_3 a0_1 (l1.drop j)) ∧ Aside0 (Kd.R (Kd.int .i64) 2 wr w.heap.size (fun _ => True) (.slice (some ⟨w1.heap.size, 0, none⟩) l1.length l1.length) (List.replicate j 0 ++ latesF a0_2 a0_3 a0_1 (l1.drop j))) ∧
        Aside0 (wr.heap[w.heap.size]? = some (.cells #[.int .i64 a0_0, .int .i64 a0_1, .int .i64 a0_2, .int .i64 a0_3, .slice A0_4 l0_4.length c0_4] 24 (0, 0))) ∧ Aside0 (Below w.heap.size w wr)) (fun _ i _ => l1.length - (intOf i).toNat)
    case atStart => exact ⟨0, l1.length, by omega, rfl, by rw [List.drop_length]; rfl, ⟨by rw [List.drop_length]; simp only [latesF, List.append_nil]; exact R_made .i64 _ w1 _ _ (below_size HB1.out) (by omega) rfl⟩, ⟨blk_alloc K1.out _⟩, ⟨below_alloc HB1.out _⟩⟩
    case round =>
      clear c0 c1' c2 c3 c4 K1 hz
      obtain ⟨k, j, hk, rfl, rfl, HO, K1, HB2⟩ := hrel
      have HP1 := Aside0.mk (Kd.C_below HP.out HB2.out)
      obtain ⟨c0, c1', c2, c3, c4⟩ := blk5 K1.out
      by_cases hlt : k < l1.length
      · obtain ⟨j, rfl⟩ : ∃ m, j = m + 1 := ⟨j - 1, by omega⟩
        obtain ⟨ad, x, rfl, hcell, hx⟩ := C_at (0 : Int) HP1.out j (by omega)
        have hji : ((l1.length : Int) - 1 - k).toNat = j := by omega
        have hcell' : wr.cell? (ad.add ((l1.length : Int) - 1 - k).toNat) = some (.int .i64 x) := by rw [hji]; exact hcell
        obtain ⟨hce, hfr⟩ := Kd.R_celln (h1 := fun _ => rfl) (enc := Value.int .i64) (0 : Int) HO.out ((l1.length : Int) - 1 - k) (by omega) (by omega)
        have HS : Aside0 (lateF a0_2 a0_3 a0_1 (l1.drop j) = if x = 1 then wrap64 (lateF a0_2 a0_3 a0_1 (l1.drop (j + 1)) - a0_2) else mn a0_1 (wrap64 (lateF a0_2 a0_3 a0_1 (l1.drop (j + 1)) + a0_3))) := ⟨by rw [drop_cons hx.out]; rfl⟩
        have HS2 : Aside0 (latesF a0_2 a0_3 a0_1 (l1.drop j) = lateF a0_2 a0_3 a0_1 (l1.drop j) :: latesF a0_2 a0_3 a0_1 (l1.drop (j + 1))) := ⟨by rw [drop_cons hx.out]; rfl⟩
        generalize lateF a0_2 a0_3 a0_1 (l1.drop (j + 1)) = late at HS
        generalize rdOf (0 : Int) (List.replicate (j + 1) 0 ++ latesF a0_2 a0_3 a0_1 (l1.drop (j + 1))) ((l1.length : Int) - 1 - k) = old at hce
        have HJ := Aside0.mk hji
        have hjn : l1.length - 1 - k = j := by omega
        have hcell2 : wr.cell? (ad.add (l1.length - 1 - k)) = some (.int .i64 x) := by rw [hjn]; exact hcell
        rw [hji, ← hjn] at hce hfr
        have HJN := Aside0.mk hjn
        clear hji hcell hx hjn hcell'
        by_cases h1 : x = 1
        · have H1 := Aside0.mk h1
          have h1' : (x == 1) = true := by simpa using h1
          clear h1
          go_wp2
          go_roundw
          case rel =>
            have hv : lateF a0_2 a0_3 a0_1 (l1.drop j) = wrap64 (late - a0_2) := by rw [HS.out]; simp [H1.out]
            refine ⟨k + 1, j, by omega, by go_num, by rw [hv], ⟨?_⟩, ⟨blk_far K1.out (by have := hz0.out; simp; omega) _⟩, ⟨below_set HB2.out (below_size HB1.out)⟩⟩
            rw [HS2.out, ← set_rep j, HJN.out, ← hv]
            exact R_put_nat HO.out j _
          case measure => simp [intOf]; omega
        · have H1 := Aside0.mk h1
          have h1' : (x == 1) = false := by simpa using h1
          clear h1
          go_wp2
          go_roundw
          case rel =>
            have hv : lateF a0_2 a0_3 a0_1 (l1.drop j) = mn a0_1 (wrap64 (late + a0_3)) := by rw [HS.out]; simp [H1.out]
            refine ⟨k + 1, j, by omega, by go_num, by rw [hv], ⟨?_⟩, ⟨blk_far K1.out (by have := hz0.out; simp; omega) _⟩, ⟨below_set HB2.out (below_size HB1.out)⟩⟩
            rw [HS2.out, ← set_rep j, HJN.out, ← hv]
            exact R_put_nat HO.out j _
          case measure => simp [intOf]; omega
      · have hkl : Aside0 (j = 0) := ⟨by omega⟩
        go_wp2
        go_ret2
        have h := HO.out
        rw [hkl.out, List.drop_zero, List.replicate_zero, List.nil_append, HR1.out] at h
        exact ⟨_, rfl, h, HB2.out⟩
end Go.Proofs.Ytpoopogojocolaa.P
