/- The contracts of stone's steps: a function value, and the steps that it hands to a loop. -/
import Derived.Test.YtpoopogojocolaaZT06
import Derived.Test.YtpoopogojocolaaZT11
namespace Go.Proofs.Ytpoopogojocolaa.P
open Go.RowKit Go.Shelf Go.Proofs.YtpoopogojocolaaW.PrintWords Go.Proofs.YtpoopogojocolaaW.PrintLast Go.Proofs.YtpoopogojocolaaW.PrintMore
attribute [local go_sem] Oper.semAt_some
attribute [local go_sem] max2_mx min2_mn max_two min_two
set_option linter.unusedVariables false
set_option linter.unusedSimpArgs false
structure St where
  g : Int
  p : Int
  h : Int
def St.v (s : St) : Value := .agg #[.int .i64 s.g, .int .i64 s.p, .int .i64 s.h]
def BlkAt (W : World) (g : Nat) (b : Bn) (A : Option Addr) (c : Nat) : Prop :=
  W.heap[g]? = some (.cells #[.int .i64 b.s, .int .i64 b.li, .int .i64 b.ga, .int .i64 b.fa, .slice A b.l.length c, .int .i64 b.mo] 97 (0, 0))
theorem BlkAt.below {W W1 : World} {g : Nat} {b : Bn} {A : Option Addr} {c : Nat} (h : BlkAt W g b A c) (hb : Below W.heap.size W W1) : BlkAt W1 g b A c := blk_below h hb
theorem after75b (g : Nat) (b : Bn) (A : Option Addr) (c : Nat) (heat room gr : Int) (w : World) (hb : BlkAt w g b A c) :
    Calls Try.prog 75 #[.pointer (some ⟨g, 0, none⟩), .int .i64 heat, .int .i64 room, .int .i64 gr] w fun e w' => e = .returned (.int .i64 (afterF b heat room gr)) ∧ w = w' := by
  obtain ⟨c0, c1, c2, c3, c4, c5⟩ := blk6 hb
  clear hb
  by_cases h1 : gr = 1
  · go_enter Try.func75, Try.ntmps75
    go_wp2
    go_ret
    exact ⟨by simp [afterF, h1], rfl⟩
  · go_enter Try.func75, Try.ntmps75
    go_wp2
    go_ret
    exact ⟨by simp [afterF, h1], rfl⟩
def stepF (b : Bn) (h : S73) (heat g : Int) : St := ⟨g, wrap64 (h.f1 * g), afterF b heat h.f0.f1 g⟩
def stepsF (b : Bn) (h : S73) (heat li : Int) : List St := [stepF b h heat 0, stepF b h heat 1].filter (fun s => decide (s.h ≤ li))
def upF (b : Bn) (h : S73) (heat li : Int) (j : Nat) : List St := ([stepF b h heat 0, stepF b h heat 1].take j).filter (fun s => decide (s.h ≤ li))
theorem upF_len (b : Bn) (h : S73) (heat li : Int) (j : Nat) : (upF b h heat li j).length ≤ j := by
  refine Nat.le_trans (List.length_filter_le _ _) ?_
  rw [List.length_take]; omega
theorem upF_in {b : Bn} {h : S73} {heat li : Int} {j : Nat} (hj : j < 2) (hl : afterF b heat h.f0.f1 j ≤ li) : upF b h heat li (j + 1) = upF b h heat li j ++ [stepF b h heat j] := by
  obtain rfl | rfl : j = 0 ∨ j = 1 := by omega
  · have hl' : afterF b heat h.f0.f1 0 ≤ li := hl
    simp [upF, stepF, hl']
  · have hl' : afterF b heat h.f0.f1 1 ≤ li := hl
    show ([stepF b h heat 0] ++ [stepF b h heat 1]).filter (fun s => decide (s.h ≤ li)) = [stepF b h heat 0].filter (fun s => decide (s.h ≤ li)) ++ [stepF b h heat 1]
    rw [List.filter_append]
    congr 1
    simp [stepF, hl']
theorem upF_out {b : Bn} {h : S73} {heat li : Int} {j : Nat} (hj : j < 2) (hl : ¬ afterF b heat h.f0.f1 j ≤ li) : upF b h heat li (j + 1) = upF b h heat li j := by
  obtain rfl | rfl : j = 0 ∨ j = 1 := by omega
  · have hl' : ¬ afterF b heat h.f0.f1 0 ≤ li := hl
    simp [upF, stepF]
    omega
  · have hl' : ¬ afterF b heat h.f0.f1 1 ≤ li := hl
    show ([stepF b h heat 0] ++ [stepF b h heat 1]).filter (fun s => decide (s.h ≤ li)) = [stepF b h heat 0].filter (fun s => decide (s.h ≤ li))
    rw [List.filter_append, show [stepF b h heat 1].filter (fun s => decide (s.h ≤ li)) = [] from by simp [stepF]; omega, List.append_nil]
theorem step_mem {b : Bn} {h : S73} {heat li : Int} {j : Nat} (hj : j < 2) (hl : afterF b heat h.f0.f1 j ≤ li) : stepF b h heat j ∈ stepsF b h heat li := by
  unfold stepsF
  rw [List.mem_filter]
  refine ⟨?_, decide_eq_true hl⟩
  obtain rfl | rfl : j = 0 ∨ j = 1 := by omega
  · simp
  · simp
theorem up_prefix (b : Bn) (h : S73) (heat li : Int) (j : Nat) : upF b h heat li j <+: stepsF b h heat li := by
  unfold upF stepsF
  exact (List.take_prefix j _).filter _
structure Boxes (W : World) (b1 g : Nat) (hour heat li : Int) : Prop where
  p1 : W.heap[b1]? = some (.cells #[.pointer (some ⟨g, 0, none⟩)] 62 (0, 0))
  p2 : W.heap[b1 + 1]? = some (.cells #[.int .i64 hour, .int .i64 heat] 95 (0, 0))
  p3 : W.heap[b1 + 2]? = some (.cells #[.int .i64 li] 2 (0, 0))
theorem Boxes.below {W W' : World} {b1 g : Nat} {hour heat li : Int} (h : Boxes W b1 g hour heat li) (hb : Below W.heap.size W W') : Boxes W' b1 g hour heat li := ⟨blk_below h.p1 hb, blk_below h.p2 hb, blk_below h.p3 hb⟩
theorem Boxes.kept {W W' : World} {b1 g : Nat} {hour heat li : Int} (h : Boxes W b1 g hour heat li) (hb : KeepT [87, 89] W W') : Boxes W' b1 g hour heat li := ⟨hb _ _ _ _ h.p1 (by decide), hb _ _ _ _ h.p2 (by decide), hb _ _ _ _ h.p3 (by decide)⟩
theorem steps59 (g : Nat) (hour heat li : Int) (w : World) :
    Calls Try.prog 59 #[.pointer (some ⟨g, 0, none⟩), .agg #[.int .i64 hour, .int .i64 heat], .int .i64 li] w fun e w' =>
      e = .returned (.func (.func 80) #[] #[.pointer (some ⟨w.heap.size, 0, none⟩), .pointer (some ⟨w.heap.size + 1, 0, none⟩), .pointer (some ⟨w.heap.size + 2, 0, none⟩)]) ∧ Boxes w' w.heap.size g hour heat li ∧ Below w.heap.size w w' ∧ w'.heap.size = w.heap.size + 3 := by
  go_enter Try.func59, Try.ntmps59
  go_wp2
  go_ret
  have k1 := new_blk w (.cells #[.pointer (some ⟨g, 0, none⟩)] 62)
  have h1 := hb1 w (.cells #[.pointer (some ⟨g, 0, none⟩)] 62)
  have e1 : (w.alloc (.cells #[.pointer (some ⟨g, 0, none⟩)] 62)).heap.size = w.heap.size + 1 := by simp
  generalize w.alloc (.cells #[.pointer (some ⟨g, 0, none⟩)] 62) = w1 at *
  have k2 := new_blk w1 (.cells #[.int .i64 hour, .int .i64 heat] 95)
  have h2 := hb1 w1 (.cells #[.int .i64 hour, .int .i64 heat] 95)
  have e2 : (w1.alloc (.cells #[.int .i64 hour, .int .i64 heat] 95)).heap.size = w1.heap.size + 1 := by simp
  generalize w1.alloc (.cells #[.int .i64 hour, .int .i64 heat] 95) = w2 at *
  have k3 := new_blk w2 (.cells #[.int .i64 li] 2)
  have h3 := hb1 w2 (.cells #[.int .i64 li] 2)
  have e3 : (w2.alloc (.cells #[.int .i64 li] 2)).heap.size = w2.heap.size + 1 := by simp
  generalize w2.alloc (.cells #[.int .i64 li] 2) = w3 at *
  refine ⟨?_, ⟨?_, ?_, ?_⟩, below_step (below_step h1 h2) h3, by omega⟩
  · first | rfl | simp
  · exact blk_below (blk_below k1 h2) h3
  · rw [← e1]; exact blk_below k2 h3
  · rw [show w.heap.size + 2 = w2.heap.size by omega]; exact k3
set_option maxHeartbeats 4000000 in
set_option maxRecDepth 100000 in
theorem steps80 (b1 g : Nat) (b : Bn) (A : Option Addr) (c : Nat) (k : Nat) (heat li : Int) (h : S73) (w : World) (hk : b.l[k]? = some h) (hB : BenchAt w g b A c) (hX : Boxes w b1 g k heat li) :
    SeqStopsK Fence.wide 2 Try.prog 80 #[.pointer (some ⟨b1, 0, none⟩), .pointer (some ⟨b1 + 1, 0, none⟩), .pointer (some ⟨b1 + 2, 0, none⟩)] (fun s : { s : St // s ∈ stepsF b h heat li } => #[s.1.v]) (KeepT [87, 89])
      (fun xs => xs.map (·.1) = stepsF b h heat li) (fun pre => pre.map (·.1) <+: stepsF b h heat li) 2 w := fun l J Jx W hW hJ hJx hY h0 => by
  have HB := Aside0.mk (hB.below hW)
  have HX := Aside0.mk (hX.below hW)
  have HK := Aside0.mk hk
  have hlt := lt_of_get hk
  have hsm : b.l.length ≤ 9223372036854775807 := hB.rd.2.1
  have a1 := blk1 HX.out.p1
  obtain ⟨a2, a2'⟩ := blk2 HX.out.p2
  have z1 := blk_lt HX.out.p1
  have z2 := blk_lt HX.out.p2
  have z3 := blk_lt HX.out.p3
  have z4 := blk_lt HB.out.blk
  have a3 := blk1 HX.out.p3
  obtain ⟨c0, c1, c2, c3, c4, c5⟩ := blk6 HB.out.blk
  obtain ⟨ad2, y, cs, rfl, hy', hKk, hcs⟩ := C_elem z73 HB.out.rd k hlt
  obtain rfl : y = h := by rw [hk] at hy'; injection hy' with e; exact e.symm
  have hk0 := k73_open hKk
  subst hk0
  have hy0 : W.cell? (ad2.add (k * 3)) = some (.int .i64 y.f0.f0) := hcs 0 _ rfl
  have hy1 : W.cell? ⟨(ad2.add (k * 3)).block, (ad2.add (k * 3)).off + 1, none⟩ = some (.int .i64 y.f0.f1) := by rw [← add_field _ _ 1 (by omega)]; exact hcs 1 _ rfl
  have hy2 : W.cell? ⟨(ad2.add (k * 3)).block, (ad2.add (k * 3)).off + 2, none⟩ = some (.int .i64 y.f1) := by rw [← add_field _ _ 2 (by omega)]; exact hcs 2 _ rfl
  have z5 : (ad2.add (k * 3)).block < W.heap.size := cell_lt hy0
  clear hB hX hk hKk hcs hy'
  have hcap := HB.out.cap
  refine callsIn_of_wp Try.func80 rfl trivial ?_ rfl
  simp only [Try.ntmps80, List.size_toArray, List.length_cons, List.length_nil, Nat.reduceAdd, Nat.reduceSub, Array.replicate_succ, Array.replicate_zero, List.push_toArray, List.append_toArray, List.nil_append, List.cons_append]
  refine wpIn_seq_k ?_
  intro K0 hK0
  refine wpIn_wide.2 ?_
  go_region
  refine hK0 _ _ ?_
  clear hK0
  obtain ⟨W1, hW1⟩ : ∃ W1, (W.alloc (.cells #[.int .i64 y.f0.f0, .int .i64 y.f0.f1, .int .i64 y.f1] 73)).drew = W1 := ⟨_, rfl⟩
  have KH : Aside0 (W1.heap[W.heap.size]? = some (.cells #[.int .i64 y.f0.f0, .int .i64 y.f0.f1, .int .i64 y.f1] 73 (0, 0))) := ⟨by rw [← hW1]; exact new_blk W _⟩
  have HBW : Below W.heap.size W W1 := by rw [← hW1]; exact below_drew1 (hb1 _ _)
  have HJ := Aside0.mk (hJ _ _ _ none h0 (grown_of_below HBW) (fun _ e => by cases e))
  have HX1 := Aside0.mk (HX.out.below HBW)
  have HB1 : Aside0 (BlkAt W1 g b (some ad2) c) := ⟨blk_below HB.out.blk HBW⟩
  have HS := Aside0.mk HBW.size
  rw [hW1]
  clear hW1 HBW a1 a2 a2' a3 z1 z2 z3 z4 z5 c0 c1 c2 c3 c4 c5 hy0 hy1 hy2 HX HB h0
  gi_wp2
  gi_loopw [17] (fun v wr => ∃ (j : Nat) (pre : List { s : St // s ∈ stepsF b y heat li }), j ≤ 2 ∧ v = .int .i64 j ∧ Aside0 (pre.map (·.1) = upF b y heat li j) ∧ Aside0 (J pre wr) ∧ Aside0 (Boxes wr b1 g k heat li) ∧ Aside0 (BlkAt wr g b (some ad2) c) ∧ Aside0 (wr.heap[W.heap.size]? = some (.cells #[.int .i64 y.f0.f0, .int .i64 y.f0.f1, .int .i64 y.f1] 73 (0, 0)))) (fun v _ => 2 - (intOf v).toNat)
  case atStart => exact ⟨0, [], by omega, rfl, ⟨rfl⟩, HJ, HX1, HB1, KH⟩
  case round =>
    clear HJ HX1 HB1 KH HS
    obtain ⟨j, pre, hj, rfl, HP, HJ, HX, HB, KH⟩ := hrel
    by_cases hlt2 : j < 2
    · have a1 := blk1 HX.out.p1
      obtain ⟨a2, a2'⟩ := blk2 HX.out.p2
      have a3 := blk1 HX.out.p3
      obtain ⟨d0, d1, d2⟩ := blk3 KH.out
      have z1 := blk_lt HX.out.p1
      have z2 := blk_lt HX.out.p2
      have z3 := blk_lt HX.out.p3
      have z4 := blk_lt HB.out
      have z5 := blk_lt KH.out
      have hcall : ∀ w2, Below wr.heap.size wr w2 → Calls Try.prog 75 #[.pointer (some ⟨g, 0, none⟩), .int .i64 heat, .int .i64 y.f0.f1, .int .i64 j] w2 fun e w' => e = .returned (.int .i64 (afterF b heat y.f0.f1 j)) ∧ w2 = w' := fun w2 h => after75b g b (some ad2) c heat y.f0.f1 j w2 (HB.out.below h)
      have q1 : Below wr.heap.size wr wr.drew := below_drew1 (Below.refl _ _)
      have q2 : ∀ o, Below wr.heap.size wr (wr.alloc o).drew := fun o => below_drew1 (hb1 _ _)
      gi_wp2
      refine wpIn_wide.2 ?_
      go_region_held3 (fun W2 => W2.cell? ⟨W.heap.size, 2, none⟩ = some (.int .i64 y.f1) ∧ W2.cell? ⟨b1, 0, none⟩ = some (.pointer (some ⟨g, 0, none⟩)) ∧ W2.cell? ⟨b1 + 1, 1, none⟩ = some (.int .i64 heat) ∧ W2.cell? ⟨W.heap.size, 1, none⟩ = some (.int .i64 y.f0.f1) ∧ Aside0 (Below wr.heap.size wr W2))
        (first | exact ⟨d2, a1, a2', d1, ⟨q1⟩⟩ | exact ⟨pw_cell_below (q2 _) d2, pw_cell_below (q2 _) a1, pw_cell_below (q2 _) a2', pw_cell_below (q2 _) d1, ⟨q2 _⟩⟩ | exact ⟨pw_cell_below (q2 _) d2, pw_cell_below (q2 _) a1, pw_cell_below (q2 _) a2', pw_cell_below (q2 _) d1, ⟨q2 _⟩⟩)
        (first | (go_at_call 75; with_reducible refine (hcall _ (by first | exact q1 | exact q2 _)).mono ?_; rintro e w1 ⟨rfl, hw1⟩; subst hw1))
      all_goals
        obtain ⟨nh, hnh⟩ : ∃ nh, Aside0 (afterF b heat y.f0.f1 j = nh) := ⟨_, ⟨rfl⟩⟩
        obtain ⟨pn, hpn⟩ : ∃ pn, Aside0 (IntKind.i64.wrap (y.f1 * j) = pn) := ⟨_, ⟨rfl⟩⟩
        rw [hnh.out, hpn.out]
        obtain ⟨W5, hW5⟩ : ∃ W5, (wr.alloc (.cells #[.int .i64 j, .int .i64 pn, .int .i64 nh] 87)).drew = W5 := ⟨_, rfl⟩
        have KS := blk3 (W := W5) (g := wr.heap.size) (t := 87) (by rw [← hW5]; exact new_blk wr _)
        have HB5 : Below wr.heap.size wr W5 := by rw [← hW5]; exact below_drew1 (hb1 _ _)
        rw [hW5]
        clear hW5
        obtain ⟨s0, s1, s2⟩ := KS
        have HJ5 := Aside0.mk (hJ _ _ _ none HJ.out (grown_of_below HB5) (fun _ e => by cases e))
        have HX5 := Aside0.mk (HX.out.below HB5)
        have HBk5 := Aside0.mk (HB.out.below HB5)
        have KH5 := Aside0.mk (blk_below KH.out HB5)
        have a5 := blk1 HX5.out.p3
        clear hcall q1 q2 HB5 HJ HX HB KH a1 a2 a2' a3 d0 d1 d2 z1 z2 z3 z4 z5
        by_cases hle : nh ≤ li
        · have hsv : (stepF b y heat j).v = .agg #[.int .i64 j, .int .i64 pn, .int .i64 nh] := by rw [← hnh.out, ← hpn.out, IntWalk.i64_left]; rfl
          obtain ⟨fn, tmps, assign, body, hy, hR⟩ := hY pre ⟨stepF b y heat j, step_mem hlt2 (hnh.out.symm ▸ hle)⟩ W5 HJ5.out (by have := upF_len b y heat li j; rw [← HP.out, List.length_map] at this; omega)
          dsimp only at hy
          rw [hsv] at hy
          have hHJ5 := HJ5
          gi_wp2
          refine hR.mono ?_
          rintro e W3 (⟨rfl, hJ3, hk3⟩ | ⟨rfl, hJx3⟩)
          · gi_wp2
            go_roundw
            case rel => exact ⟨j + 1, pre ++ [⟨stepF b y heat j, step_mem hlt2 (hnh.out.symm ▸ hle)⟩], by omega, by go_num, ⟨by rw [List.map_append, HP.out, upF_in hlt2 (hnh.out.symm ▸ hle)]; rfl⟩, ⟨hJ3⟩, ⟨HX5.out.kept hk3⟩, ⟨hk3 _ _ _ _ HBk5.out (by decide)⟩, ⟨hk3 _ _ _ _ KH5.out (by decide)⟩⟩
            case measure => simp [intOf]; omega
          · gi_wp2
            refine bodyPost_ret (results_none rfl _ _ _) rfl ?_
            exact ⟨⟨_, rfl⟩, .inr ⟨_, by rw [List.map_append, HP.out]; exact (upF_in hlt2 (hnh.out.symm ▸ hle)) ▸ up_prefix b y heat li (j + 1), hJx3⟩⟩
        · have hle' : decide (nh ≤ li) = false := by simp; omega
          gi_wp2
          refine ⟨fun _ h => (by cases h), ?_⟩
          gi_wp2
          go_roundw
          case rel => exact ⟨j + 1, pre, by omega, by go_num, ⟨by rw [HP.out, upF_out hlt2 (hnh.out.symm ▸ Int.not_le.2 hle)]⟩, HJ5, HX5, HBk5, KH5⟩
          case measure => simp [intOf]; omega
    · obtain rfl : j = 2 := by omega
      gi_wp2
      go_end0
      exact ⟨⟨_, rfl⟩, .inl ⟨_, HP.out, HJ.out⟩⟩
end Go.Proofs.Ytpoopogojocolaa.P
