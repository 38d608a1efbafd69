/- The contracts of stone's best and of the comparison in Plan. -/
import Derived.Test.YtpoopogojocolaaZT26
namespace Go.Proofs.Ytpoopogojocolaa.P
open Go.RowKit Go.Shelf Go.Proofs.YtpoopogojocolaaW.PrintWords Go.Proofs.YtpoopogojocolaaW.PrintLast Go.Proofs.YtpoopogojocolaaW.PrintMore
attribute [local go_sem] max2_mx min2_mn max_two min_two
set_option linter.unusedVariables false
set_option linter.unusedSimpArgs false
def Pred2 (gf : Nat) (lb : Array Value) (g : St → Prop) (p : St → St → Bool) (w : World) : Prop :=
  ∀ (W : World) (x y : St), g x → g y → Below w.heap.size w W → Calls Try.prog gf (#[x.v, y.v] ++ lb) W fun e w' => e = .returned (.bool (p x y)) ∧ Below W.heap.size W w'
theorem blk3_set {W : World} {g : Nat} {t : TypeId} {a b c : Value} (x y z : Value) (h : W.heap[g]? = some (.cells #[a, b, c] t (0, 0))) : (((W.setCell ⟨g, 0, none⟩ x).setCell ⟨g, 1, none⟩ y).setCell ⟨g, 2, none⟩ z).heap[g]? = some (.cells #[x, y, z] t (0, 0)) := by
  have h1 := blk_set h 0 x
  have h2 := blk_set h1 1 y
  have h3 := blk_set h2 2 z
  simpa using h3
theorem below3_set {w W : World} (h : Below w.heap.size w W) {g : Nat} (hg : w.heap.size ≤ g) (x y z : Value) : Below w.heap.size w (((W.setCell ⟨g, 0, none⟩ x).setCell ⟨g, 1, none⟩ y).setCell ⟨g, 2, none⟩ z) :=
  ((h.setCell (p := ⟨g, 0, none⟩) hg x).setCell (p := ⟨g, 1, none⟩) hg y).setCell (p := ⟨g, 2, none⟩) hg z
set_option maxHeartbeats 4000000 in
set_option maxRecDepth 100000 in
theorem best57 (gf : Nat) (lb : Array Value) (better : St → St → Bool) (A : Option Addr) (n c : Nat) (x0 : St) (xs : List St) (hsm : xs.length ≤ 1000) (w : World) (hr : Kd.C kSt w A n (x0 :: xs)) (hc : n ≤ c) (g : St → Prop) (hg0 : g x0) (hgs : ∀ x, x ∈ xs → g x) (hp : Pred2 gf lb g better w) (eg : ∀ args w, (callFunc gf args).run Try.prog w = .ok (.enter gf args) w) :
    Calls Try.prog 57 #[.slice A n c, .func (.func gf) #[] lb] w fun e w' => e = .returned (bestF better x0 xs).v ∧ Below w.heap.size w w' := by
  obtain rfl : (x0 :: xs).length = n := hr.1
  have hl : (x0 :: xs).length = xs.length + 1 := rfl
  rw [hl] at *
  have HR := Aside0.mk hr
  have HP := Aside0.mk hp
  obtain ⟨ad, y, cs, rfl, hy', hK, hcs⟩ := C_elem (⟨0, 0, 0⟩ : St) hr 0 (by simp)
  obtain rfl : x0 = y := by simpa using hy'
  have hk0 := kSt_open hK
  subst hk0
  have y0 : w.cell? ad = some (.int .i64 x0.g) := by have := hcs 0 _ rfl; rwa [Nat.zero_mul, Nat.zero_add, Addr.add_zero'] at this
  have y1 : w.cell? ⟨ad.block, ad.off + 1, none⟩ = some (.int .i64 x0.p) := by have := hcs 1 _ rfl; rw [Nat.zero_mul, Nat.zero_add] at this; exact this
  have y2 : w.cell? ⟨ad.block, ad.off + 2, none⟩ = some (.int .i64 x0.h) := by have := hcs 2 _ rfl; rw [Nat.zero_mul, Nat.zero_add] at this; exact this
  have zz := cell_lt y0
  clear hr hp hK hcs hy'
  have HBW : Aside0 (Below w.heap.size w ((w.alloc (.cells #[.int .i64 0, .int .i64 0, .int .i64 0] 87)).alloc (.cells #[.int .i64 x0.g, .int .i64 x0.p, .int .i64 x0.h] 87))) := ⟨below_step (hb1 _ _) (hb1 _ _)⟩
  have K4 : Aside0 (((w.alloc (.cells #[.int .i64 0, .int .i64 0, .int .i64 0] 87)).alloc (.cells #[.int .i64 x0.g, .int .i64 x0.p, .int .i64 x0.h] 87)).heap[w.heap.size]? = some (.cells #[.int .i64 0, .int .i64 0, .int .i64 0] 87 (0, 0))) := ⟨blk_below (new_blk _ _) (hb1 _ _)⟩
  have K5 : Aside0 (((w.alloc (.cells #[.int .i64 0, .int .i64 0, .int .i64 0] 87)).alloc (.cells #[.int .i64 x0.g, .int .i64 x0.p, .int .i64 x0.h] 87)).heap[w.heap.size + 1]? = some (.cells #[.int .i64 x0.g, .int .i64 x0.p, .int .i64 x0.h] 87 (0, 0))) := ⟨by have := new_blk (w.alloc (.cells #[.int .i64 0, .int .i64 0, .int .i64 0] 87)) (.cells #[.int .i64 x0.g, .int .i64 x0.p, .int .i64 x0.h] 87); rwa [World.size_alloc] at this⟩
  have HA : Aside0 (∀ k x, xs[k]? = some x → w.cell? ⟨ad.block, ad.off + 3 + k * 3, none⟩ = some (.int .i64 x.g) ∧ w.cell? ⟨ad.block, ad.off + 3 + k * 3 + 1, none⟩ = some (.int .i64 x.p) ∧ w.cell? ⟨ad.block, ad.off + 3 + k * 3 + 2, none⟩ = some (.int .i64 x.h)) := ⟨fun k x hx => by
    obtain ⟨ad', y, cs, e, hy', hK, hcs⟩ := C_elem (⟨0, 0, 0⟩ : St) HR.out (k + 1) (by have := lt_of_get hx; simp; omega)
    injection e with e
    subst e
    obtain rfl : x = y := by rw [List.getElem?_cons_succ, hx] at hy'; injection hy'
    have hk0 := kSt_open hK
    subst hk0
    have g0 : ∀ j, ad.add ((k + 1) * kSt.sz + j) = ⟨ad.block, ad.off + 3 + k * 3 + j, none⟩ := fun j => by
      show ad.add ((k + 1) * 3 + j) = _
      unfold Addr.add
      rw [if_neg (by omega)]
      congr 1
      omega
    exact ⟨by rw [← hcs 0 _ rfl, g0]; rfl, by rw [← hcs 1 _ rfl, g0], by rw [← hcs 2 _ rfl, g0]⟩⟩
  have HQ : ∀ (P5 : World → Prop), True := fun _ => trivial
  go_enter Try.func57, Try.ntmps57
  by_cases h1 : c = 1
  · obtain rfl : xs = [] := by cases xs with | nil => rfl | cons _ _ => simp at hc; omega
    subst h1
    go_wp2
    go_loopw [14] (fun i wr => i = .int .i64 0 ∧ Aside0 (Below w.heap.size w wr) ∧ Aside0 (wr.heap[w.heap.size]? = some (.cells #[.int .i64 0, .int .i64 0, .int .i64 0] 87 (0, 0))) ∧ Aside0 (wr.heap[w.heap.size + 1]? = some (.cells #[.int .i64 x0.g, .int .i64 x0.p, .int .i64 x0.h] 87 (0, 0)))) (fun _ _ => 0)
    case atStart => exact ⟨rfl, HBW, K4, K5⟩
    case round =>
      obtain ⟨rfl, HB, H4, H5⟩ := hrel
      obtain ⟨d0, d1, d2⟩ := blk3 H5.out
      obtain ⟨e0, e1, e2⟩ := blk3 H4.out
      have f4 := blk_frozen H4.out
      have z4 := blk_lt H4.out
      go_wp2
      refine bodyPost_ret (results_cell_row rfl _ _ w.heap.size 87 #[.int .i64 x0.g, .int .i64 x0.p, .int .i64 x0.h] (0, 0) _ rfl (blk3_set _ _ _ H4.out) Try.underlying87 rfl (by kernel_rfl)) rfl ?_
      exact ⟨rfl, below3_set HB.out (Nat.le_refl _) _ _ _⟩
  · go_wp2
    go_loopw [14] (fun i wr => ∃ (k : Nat) (out : St), k ≤ xs.length ∧ i = .int .i64 k ∧ g out ∧ Aside0 (bestF better out (xs.drop k) = bestF better x0 xs) ∧ Aside0 (Below w.heap.size w wr) ∧ Aside0 (wr.heap[w.heap.size]? = some (.cells #[.int .i64 0, .int .i64 0, .int .i64 0] 87 (0, 0))) ∧ Aside0 (wr.heap[w.heap.size + 1]? = some (.cells #[.int .i64 out.g, .int .i64 out.p, .int .i64 out.h] 87 (0, 0)))) (fun i _ => xs.length - (intOf i).toNat)
    case atStart => exact ⟨0, x0, Nat.zero_le _, rfl, hg0, ⟨rfl⟩, HBW, K4, K5⟩
    case round =>
      obtain ⟨k, out, hk, rfl, hgo, HE, HB, H4, H5⟩ := hrel
      obtain ⟨d0, d1, d2⟩ := blk3 H5.out
      obtain ⟨e0, e1, e2⟩ := blk3 H4.out
      have f4 := blk_frozen H4.out
      have f5 := blk_frozen H5.out
      have z4 := blk_lt H4.out
      have z5 := blk_lt H5.out
      by_cases hlt : k < xs.length
      · obtain ⟨x, hx⟩ : ∃ x, xs[k]? = some x := ⟨_, List.getElem?_eq_getElem hlt⟩
        obtain ⟨q0, q1, q2⟩ := HA.out k x hx
        have q0 := HB.out.cell (p := ⟨ad.block, ad.off + 3 + k * 3, none⟩) zz ▸ q0
        have q1 := HB.out.cell (p := ⟨ad.block, ad.off + 3 + k * 3 + 1, none⟩) zz ▸ q1
        have q2 := HB.out.cell (p := ⟨ad.block, ad.off + 3 + k * 3 + 2, none⟩) zz ▸ q2
        clear y0 y1 y2
        go_wp2_with fail
        refine (HP.out _ x out (hgs x (List.mem_of_getElem? hx)) hgo (below_step HB.out (hb1 _ _))).mono ?_
        rintro e w1 ⟨rfl, hb⟩
        have HB1 := Aside0.mk (below_step (below_step HB.out (hb1 wr (.cells #[.int .i64 x.g, .int .i64 x.p, .int .i64 x.h] 87))) hb)
        have H41 := Aside0.mk (blk_below (blk_below H4.out (hb1 wr (.cells #[.int .i64 x.g, .int .i64 x.p, .int .i64 x.h] 87))) hb)
        have H51 := Aside0.mk (blk_below (blk_below H5.out (hb1 wr (.cells #[.int .i64 x.g, .int .i64 x.p, .int .i64 x.h] 87))) hb)
        have H71 := Aside0.mk (blk_below (new_blk wr (.cells #[.int .i64 x.g, .int .i64 x.p, .int .i64 x.h] 87)) hb)
        clear hb HB H4 H5 d0 d1 d2 e0 e1 e2 f4 f5 z4 z5 q0 q1 q2
        obtain ⟨d0, d1, d2⟩ := blk3 H71.out
        obtain ⟨e0, e1, e2⟩ := blk3 H51.out
        have f5 := blk_frozen H51.out
        have z5 := blk_lt H51.out
        have HE1 : Aside0 (bestF better (if better x out then x else out) (xs.drop (k + 1)) = bestF better x0 xs) := ⟨by rw [← HE.out, drop_cons hx]; rfl⟩
        cases hbt : better x out with
        | true =>
          rw [hbt, if_pos rfl] at HE1
          go_wp2
          go_roundw
          case rel => exact ⟨k + 1, x, by omega, by go_num, hgs x (List.mem_of_getElem? hx), HE1, ⟨below3_set HB1.out (Nat.le_succ _) _ _ _⟩, ⟨by rw [Below.heap_setCell _ _ _ _ (by simp), Below.heap_setCell _ _ _ _ (by simp), Below.heap_setCell _ _ _ _ (by simp)]; exact H41.out⟩, ⟨blk3_set _ _ _ H51.out⟩⟩
          case measure => simp [intOf]; omega
        | false =>
          rw [hbt, if_neg (by decide)] at HE1
          go_wp2
          go_roundw
          case rel => exact ⟨k + 1, out, by omega, by go_num, hgo, HE1, HB1, H41, H51⟩
          case measure => simp [intOf]; omega
      · obtain rfl : k = xs.length := by omega
        go_wp2
        refine bodyPost_ret (results_cell_row rfl _ _ w.heap.size 87 #[.int .i64 out.g, .int .i64 out.p, .int .i64 out.h] (0, 0) _ rfl (blk3_set _ _ _ H4.out) Try.underlying87 rfl (by kernel_rfl)) rfl ?_
        have h := HE.out
        rw [List.drop_length] at h
        exact ⟨by rw [← h]; rfl, below3_set HB.out (Nat.le_refl _) _ _ _⟩
theorem best_mem (better : St → St → Bool) : ∀ (xs : List St) (x0 : St), bestF better x0 xs = x0 ∨ bestF better x0 xs ∈ xs
  | [], x0 => .inl rfl
  | x :: xs, x0 => by
    rcases best_mem better xs (if better x x0 then x else x0) with h | h
    · cases hb : better x x0 with
      | true => rw [hb, if_pos rfl] at h; exact .inr (by simp only [bestF, hb, if_true]; rw [h]; exact List.mem_cons_self)
      | false => rw [hb, if_neg (by decide)] at h; exact .inl (by simp only [bestF, hb]; exact h)
    · exact .inr (List.mem_cons_of_mem _ h)
def TabAt (W : World) (T m : Nat) (tv : Nat → Nat → Int) : Prop := ∀ i h, i < m → h < 42 → W.cell? ⟨T, i * 42 + h, none⟩ = some (.int .i64 (tv i h))
theorem TabAt.below {W W' : World} {T m : Nat} {tv : Nat → Nat → Int} (h : TabAt W T m tv) (hb : Below W.heap.size W W') : TabAt W' T m tv := fun i j hi hj => pw_cell_below hb (h i j hi hj)
def betterF (tv : Nat → Nat → Int) (i : Nat) (x y : St) : Bool := decide (wrap64 (y.p + tv (i + 1) y.h.toNat) < wrap64 (x.p + tv (i + 1) x.h.toNat))
def fitS (x : St) : Prop := 0 ≤ x.h ∧ x.h < 42
set_option maxHeartbeats 4000000 in
set_option maxRecDepth 100000 in
theorem better60 (tb ib T m i : Nat) (tv : Nat → Nat → Int) (c : Nat) (w : World) (hi : i + 1 < m) (hm : m ≤ 1000) (hT : TabAt w T m tv) (h1 : w.heap[tb]? = some (.cells #[.slice (some ⟨T, 0, none⟩) m c] 81 (0, 0))) (h2 : w.heap[ib]? = some (.cells #[.int .i64 i] 3 (0, 0))) :
    Pred2 60 #[.pointer (some ⟨tb, 0, none⟩), .pointer (some ⟨ib, 0, none⟩)] fitS (betterF tv i) w := by
  rintro W ⟨xg, xp, xh⟩ ⟨yg, yp, yh⟩ ⟨hx0, hx1⟩ ⟨hy0, hy1⟩ hb
  dsimp only at hx0 hx1 hy0 hy1
  obtain ⟨a, rfl⟩ := Int.eq_ofNat_of_zero_le hx0
  obtain ⟨b, rfl⟩ := Int.eq_ofNat_of_zero_le hy0
  have e1 := hT.below hb (i + 1) a hi (by omega)
  have e2 := hT.below hb (i + 1) b hi (by omega)
  have c1 := blk1 (blk_below h1 hb)
  have c2 := blk1 (blk_below h2 hb)
  have z1 := blk_lt (blk_below h1 hb)
  have z2 := blk_lt (blk_below h2 hb)
  have z3 := cell_lt e1
  dsimp only at z3
  have HS : betterF tv i ⟨xg, xp, a⟩ ⟨yg, yp, b⟩ = decide (wrap64 (yp + tv (i + 1) b) < wrap64 (xp + tv (i + 1) a)) := rfl
  rw [HS]
  generalize tv (i + 1) a = va at *
  generalize tv (i + 1) b = vb at *
  clear hT h1 h2 hb HS
  simp only [St.v]
  go_enter Try.func60, Try.ntmps60
  go_wp2
  go_quiet (fail)
  go_wp2
  go_ret
  exact ⟨rfl, pw_below_drewN (below_step (hb1 _ _) (hb1 _ _)) _⟩
theorem better_enter : ∀ args w, (callFunc 60 args).run Try.prog w = .ok (.enter 60 args) w := enters_of Try.func60 (by kernel_rfl) rfl
end Go.Proofs.Ytpoopogojocolaa.P
