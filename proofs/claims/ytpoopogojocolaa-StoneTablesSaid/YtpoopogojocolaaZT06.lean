/- The contracts of stone's heats and safe: the heats of a plan are heatsF. -/
import Derived.Test.YtpoopogojocolaaZT05
namespace Go.Proofs.Ytpoopogojocolaa.P
open Go.RowKit Go.Proofs.YtpoopogojocolaaW.PrintWords Go.Proofs.YtpoopogojocolaaW.PrintLast Go.Proofs.YtpoopogojocolaaW.PrintMore
attribute [local go_sem] max2_mx min2_mn max_two min_two
set_option linter.unusedVariables false
set_option linter.unusedSimpArgs false
def afterF (b : Bn) (heat room g : Int) : Int := if g = 1 then wrap64 (mx heat room + b.ga) else mx room (wrap64 (heat - b.fa))
theorem after75 (g : Nat) (b : Bn) (A : Option Addr) (c : Nat) (heat room gr : Int) (w : World) (hb : BenchAt w g b A c) :
    Calls Try.prog 75 #[.pointer (some ⟨g, 0, none⟩), .int .i64 heat, .int .i64 room, .int .i64 gr] w fun e w' => e = .returned (.int .i64 (afterF b heat room gr)) ∧ w = w' := by
  obtain ⟨c0, c1, c2, c3, c4, c5⟩ := blk6 hb.blk
  clear hb
  by_cases h1 : gr = 1
  · go_enter Try.func75, Try.ntmps75
    go_wp2
    go_ret
    exact ⟨by simp [afterF, h1], rfl⟩
  · go_enter Try.func75, Try.ntmps75
    go_wp2
    go_ret
    exact ⟨by simp [afterF, h1], rfl⟩
def roomF (b : Bn) (warm : Bool) (h : S73) : Int := if warm then wrap64 (h.f0.f1 + b.mo) else h.f0.f0
def heatsF (b : Bn) (warm : Bool) : Int → List Int → List S73 → List Int
  | heat, p :: ps, h :: hs => afterF b heat (roomF b warm h) p :: heatsF b warm (afterF b heat (roomF b warm h) p) ps hs
  | _, _, _ => []
theorem heatsF_nil (b : Bn) (warm : Bool) (heat : Int) (hs : List S73) : heatsF b warm heat [] hs = [] := by cases hs <;> rfl
set_option maxHeartbeats 8000000 in
set_option maxRecDepth 100000 in
theorem heats44 (g : Nat) (b : Bn) (A : Option Addr) (c : Nat) (B : Option Addr) (n d : Nat) (p : List Int) (warm : Bool) (w : World) (hb : BenchAt w g b A c) (hr : Kd.C (Kd.int .i64) w B n p) (hd : n ≤ d)
   (hl : n = b.l.length) (hsm : n ≤ 1000) :
    Calls Try.prog 44 #[.pointer (some ⟨g, 0, none⟩), .slice B n d, .bool warm, .int .i64 0] w fun e w' => ∃ v : Value, e = .returned v ∧ Kd.R (Kd.int .i64) 2 w' w.heap.size (fun _ => True) v (heatsF b warm b.s p b.l) ∧ Below w.heap.size w w' := by
  obtain rfl : p.length = n := hr.1
  have HN := Aside0.mk hb
  have HR := Aside0.mk hr
  have HL := Aside0.mk hl
  obtain ⟨c0, c1, c2, c3, c4, c5⟩ := blk6 hb.blk
  clear hb hr hl
  go_enter Try.func44, Try.ntmps44
  go_wp2
  go_loopw [9, 10, 12] (fun v h i wr => ∃ (k : Nat) (heat : Int) (xs : List Int), k ≤ p.length ∧ i = .int .i64 k ∧ h = .int .i64 heat ∧ Aside0 (xs ++ heatsF b warm heat (p.drop k) (b.l.drop k) = heatsF b warm b.s p b.l) ∧ Aside0 (xs.length = k) ∧ Aside0 (Kd.R (Kd.int .i64) 2 wr w.heap.size (fun _ => True) v xs) ∧ Aside0 (Below w.heap.size w wr)) (fun _ _ i _ => p.length - (intOf i).toNat)
  case atStart => exact ⟨0, b.s, [], Nat.zero_le _, rfl, rfl, ⟨by simp⟩, ⟨rfl⟩, ⟨Kd.R_nil _ _ _ _ _⟩, ⟨Below.refl _ _⟩⟩
  case round =>
    obtain ⟨k, heat, xs, hk, rfl, rfl, HE, HX, HO, HB⟩ := hrel
    clear c0 c1 c2 c3 c4 c5
    by_cases hlt : k < p.length
    · have hlt2 : k < b.l.length := by have := HL.out; omega
      have hn := HN.out.below HB.out
      obtain ⟨c0, c1, c2, c3, c4, c5⟩ := blk6 hn.blk
      obtain ⟨ad, x, rfl, hcell, hx⟩ := C_at (0 : Int) (Kd.C_below HR.out HB.out) k hlt
      obtain ⟨ad2, y, cs, rfl, hy', hK, hcs⟩ := C_elem z73 hn.rd k hlt2
      have hk0 := k73_open hK
      subst hk0
      have hy0 : wr.cell? (ad2.add (k * 3)) = some (.int .i64 y.f0.f0) := hcs 0 _ rfl
      have hy1 : wr.cell? ⟨(ad2.add (k * 3)).block, (ad2.add (k * 3)).off + 1, none⟩ = some (.int .i64 y.f0.f1) := by rw [← add_field _ _ 1 (by omega)]; exact hcs 1 _ rfl
      have hy := Aside0.mk hy'
      have HN1 := Aside0.mk hn
      clear hK hcs hy' hn
      have hcap := HN.out.cap
      have HS : Aside0 (heatsF b warm heat (p.drop k) (b.l.drop k) = afterF b heat (roomF b warm y) x :: heatsF b warm (afterF b heat (roomF b warm y) x) (p.drop (k + 1)) (b.l.drop (k + 1))) := ⟨by
        rw [drop_cons hx.out, drop_cons hy.out]; rfl⟩
      cases warm with
      | true =>
        have hrm : Aside0 (roomF b true y = wrap64 (y.f0.f1 + b.mo)) := ⟨rfl⟩
        generalize roomF b true y = rm at HS hrm
        go_wp2_with fail
        go_quiet (fail)
        go_wp2_with fail
        rw [← hrm.out]
        with_reducible refine (after75 g b (some ad2) c heat rm x _ (by exact HN1.out.below (pw_below_drewN (Below.refl _ _) _))).mono ?_
        rintro e w1 ⟨rfl, hw1⟩
        have HO' : Aside0 (Kd.R (Kd.int .i64) 2 w1 w.heap.size (fun _ => True) u9 xs) := ⟨by rw [← hw1]; exact Kd.R_drewN HO.out _⟩
        have HB' : Aside0 (Below w.heap.size w w1) := ⟨by rw [← hw1]; exact pw_below_drewN HB.out _⟩
        clear HO HB c0 c1 c2 c3 c4 c5 hcell hy0 hy1 hw1
        generalize afterF b heat rm x = nh at HS
        go_wp2_with (at_builtin; refine Kd.R_append (Kd.int .i64) (w0 := w) w.heap.size rfl _ _ 31 2 (.int .i64 0) 8 rfl Try.underlying31 info2 rfl (by decide) (by omega) u9 xs nh [.int .i64 nh] (fun _ => True) (fun _ => False) rfl rfl rfl (fun _ hk => hk.elim) (fun _ _ => trivial) HO'.out HB'.out (below_size HB'.out) (by have := HX.out; omega) ?_; intro v2 w2 ho2 hb2 hg2 hat2; have HO2 := Aside0.mk ho2; have HB2 := Aside0.mk hb2; clear ho2 hb2 hg2 hat2)
        go_roundw
        case rel => exact ⟨k + 1, nh, xs ++ [nh], by omega, by go_num, rfl, ⟨by rw [← HE.out, HS.out]; simp⟩, ⟨by simp [HX.out]⟩, HO2, HB2⟩
        case measure => simp [intOf]; omega
      | false =>
        have hrm : Aside0 (roomF b false y = y.f0.f0) := ⟨rfl⟩
        generalize roomF b false y = rm at HS hrm
        rw [← hrm.out] at hy0
        go_wp2_with fail
        with_reducible refine (after75 g b (some ad2) c heat rm x _ (by exact HN1.out)).mono ?_
        rintro e w1 ⟨rfl, hw1⟩
        have HO' : Aside0 (Kd.R (Kd.int .i64) 2 w1 w.heap.size (fun _ => True) u9 xs) := ⟨by rw [← hw1]; exact HO.out⟩
        have HB' : Aside0 (Below w.heap.size w w1) := ⟨by rw [← hw1]; exact HB.out⟩
        clear HO HB c0 c1 c2 c3 c4 c5 hcell hy0 hy1 hw1
        generalize afterF b heat rm x = nh at HS
        go_wp2_with (at_builtin; refine Kd.R_append (Kd.int .i64) (w0 := w) w.heap.size rfl _ _ 31 2 (.int .i64 0) 8 rfl Try.underlying31 info2 rfl (by decide) (by omega) u9 xs nh [.int .i64 nh] (fun _ => True) (fun _ => False) rfl rfl rfl (fun _ hk => hk.elim) (fun _ _ => trivial) HO'.out HB'.out (below_size HB'.out) (by have := HX.out; omega) ?_; intro v2 w2 ho2 hb2 hg2 hat2; have HO2 := Aside0.mk ho2; have HB2 := Aside0.mk hb2; clear ho2 hb2 hg2 hat2)
        go_roundw
        case rel => exact ⟨k + 1, nh, xs ++ [nh], by omega, by go_num, rfl, ⟨by rw [← HE.out, HS.out]; simp⟩, ⟨by simp [HX.out]⟩, HO2, HB2⟩
        case measure => simp [intOf]; omega
    · have hkl : Aside0 (k = p.length) := ⟨by omega⟩
      go_wp2
      go_ret
      exact ⟨_, rfl, by have h := HE.out; rw [hkl.out, List.drop_length, heatsF_nil, List.append_nil] at h; rw [← h]; exact HO.out, HB.out⟩
def safeF (b : Bn) (warm : Bool) (p : List Int) : Bool := inR 0 b.li (heatsF b warm b.s p b.l)
set_option maxHeartbeats 400000 in
set_option maxRecDepth 100000 in
theorem safe51 (g : Nat) (b : Bn) (A : Option Addr) (c : Nat) (B : Option Addr) (n d : Nat) (p : List Int) (warm : Bool) (w : World) (hb : BenchAt w g b A c) (hr : Kd.C (Kd.int .i64) w B n p) (hd : n ≤ d)
   (hl : n = b.l.length) (hsm : n ≤ 1000) :
    Calls Try.prog 51 #[.pointer (some ⟨g, 0, none⟩), .slice B n d, .bool warm, .int .i64 0] w fun e w' => e = .returned (.bool (safeF b warm p)) ∧ Below w.heap.size w w' := by
  have HN := Aside0.mk hb
  have HR := Aside0.mk hr
  have HL := Aside0.mk hl
  obtain ⟨c0, c1, c2, c3, c4, c5⟩ := blk6 hb.blk
  clear hb hr hl c0 c2 c3 c4 c5
  go_enter Try.func51, Try.ntmps51
  go_wp2_with fail
  go_region_held3 (fun W => W.cell? ⟨g, 1, none⟩ = some (.int .i64 b.li) ∧ Aside0 (Below w.heap.size w W)) (first | exact ⟨by assumption, ⟨below_drew1 (Below.refl _ _)⟩⟩ | exact ⟨pw_cell_below HB1.out c1, HB1⟩ | exact ⟨pw_cell_below HB2.out c1, HB2⟩)
    (first
      | (go_at_call 44; with_reducible refine (heats44 g b A c B n d p warm _ (by exact HN.out.below (below_drew1 (Below.refl _ _))) (by exact Kd.C_below HR.out (below_drew1 (Below.refl _ _))) hd HL.out hsm).mono ?_; rintro e w1 ⟨v, rfl, ho, hb⟩; obtain ⟨A1, d1, rfl, hl1, hC1⟩ := Kd.R_reads ho; have HC1 := Aside0.mk hC1; have HB1 := Aside0.mk (below_step (below_drew1 (Below.refl _ _)) hb); clear ho hb hC1)
      | (go_at_call 53; with_reducible refine (within53 0 b.li A1 _ d1 (heatsF b warm b.s p b.l) _ (by exact HC1.out) hl1).mono ?_; rintro e w2 ⟨rfl, hb⟩; have HB2 := Aside0.mk (below_step HB1.out hb); clear hb))
  go_wp2
  go_ret
  exact ⟨rfl, HB2.out⟩
end Go.Proofs.Ytpoopogojocolaa.P
