/- The contracts of the library's AppendSeq and Collect at stone's steps: the steps that a function value hands out, as a row. -/
import Derived.Test.YtpoopogojocolaaZT25
namespace Go.Proofs.Ytpoopogojocolaa.P
open Go.RowKit Go.Shelf Go.Proofs.YtpoopogojocolaaW.PrintWords Go.Proofs.YtpoopogojocolaaW.PrintLast Go.Proofs.YtpoopogojocolaaW.PrintMore
attribute [local go_sem] Oper.semAt_some
attribute [local go_sem] max2_mx min2_mn max_two min_two
set_option linter.unusedVariables false
set_option linter.unusedSimpArgs false
def kSt : Kd St := Kd.iso (Kd.pair (Kd.int .i64) (Kd.pair (Kd.int .i64) (Kd.int .i64))) (fun x : St => (x.g, x.p, x.h))
theorem kSt_open {w : World} {x : St} {cs : List Value} (h : kSt.K w x cs) : cs = [.int .i64 x.g, .int .i64 x.p, .int .i64 x.h] := by
  obtain ⟨_, _, rfl, rfl, ⟨_, _, rfl, rfl, rfl⟩⟩ := h
  exact rfl
theorem kSt_mkM (w : World) (base : Nat) (ok : Nat → Prop) (x : St) : kSt.M w base ok x [.int .i64 x.g, .int .i64 x.p, .int .i64 x.h] := ⟨[.int .i64 x.g], [.int .i64 x.p, .int .i64 x.h], rfl, rfl, ⟨[.int .i64 x.p], [.int .i64 x.h], rfl, rfl, rfl⟩⟩
theorem infoSt : (Try.prog.info? 87).map (fun i => (i.zero, i.size, i.bytes)) = some (some (.agg #[.int .i64 0, .int .i64 0, .int .i64 0]), 3, 24) := by kernel_rfl
abbrev Sub (L : List St) := { s : St // s ∈ L }
abbrev encSt (L : List St) : Sub L → Array Value := fun s => #[s.1.v]
abbrev KeepS := KeepT [87, 89]
abbrev SeqSt (n : Nat) (gf : Nat) (lb : Array Value) (L : List St) (w : World) : Prop :=
  SeqStopsK Fence.wide n Try.prog gf lb (encSt L) KeepS (fun xs => xs.map (·.1) = L) (fun pre => pre.map (·.1) <+: L) 2 w
theorem keepS_keeps {B : Nat} {W W' : World} {row : Option Nat} (hg : W.grownBy W' row) (hr : ∀ k, row = some k → ∀ o, W.heap[k]? = some o → o.isCells = true) : KeepsFrom B W W' :=
  ⟨hg.size, fun k o hB hk hc => (hg.block k (Array.getElem?_eq_some_iff.1 hk).1 (fun e => by have := hr k e.symm o hk; rw [this] at hc; cases hc)).trans hk⟩
set_option maxHeartbeats 4000000 in
set_option maxRecDepth 100000 in
theorem appendSeq79 (gf : Nat) (lb : Array Value) (L : List St) (hL : L.length ≤ 2) (w : World) (hs : SeqSt 2 gf lb L w) (eg : ∀ args w, (callFunc gf args).run Try.prog w = .ok (.enter gf args) w) :
    Calls Try.prog 79 #[.slice none 0 0, .func (.func gf) #[] lb] w fun e w' => ∃ v, e = .returned v ∧ Kd.R kSt 87 w' w.heap.size (fun _ => True) v L ∧ Below w.heap.size w w' := by
  refine (callsIn_wide (n := 3)).1 ?_
  refine callsIn_of_wp_marks Try.func79 rfl trivial ?_ rfl
  simp only [Try.ntmps79, List.size_toArray, List.length_cons, List.length_nil, Nat.reduceAdd, Nat.reduceSub, Array.replicate_succ, Array.replicate_zero, List.push_toArray, List.append_toArray, List.nil_append, List.cons_append]
  gi_wp2
  refine wpIn_rangeFunc_ownH rfl (by omega) (gf := gf) (lb := lb) rfl trivial eg hs
    (fun h k => h.trans k) (fun W l o o' _ h hc _ => KeepT.putObj o' h hc) (hb1 _ _) (fun _ => rfl)
    (fun pre W => (∃ v, W.heap[w.heap.size]? = some (.cells #[v] 89 (0, 0)) ∧ Kd.R kSt 87 W w.heap.size (fun k => w.heap.size < k) v (pre.map (·.1))) ∧ Below w.heap.size w W)
    (fun _ _ _ => False)
    (OwnFrom.and (fun s A B row hs hg hr => by
      obtain ⟨v, h1, h2⟩ := hs
      exact ⟨v, blk_grownC h1 hg (fun k e => (hr k e).2), R_grown h2 hg (fun k e => (hr k e).2)⟩) (ownFrom_below (Nat.le_refl _) (by simp)))
    (fun _ _ _ _ _ hs _ _ => hs)
    ⟨⟨_, new_blk w _, Kd.R_nil _ _ _ _ _⟩, hb1 _ _⟩
    (fun x a' W => ∃ b5, W.heap[b5]? = some (.cells #[.int .i64 x.1.g, .int .i64 x.1.p, .int .i64 x.1.h] 87 (0, 0)) ∧ a' = { tmps := #[.slice none 0 0, .func (.func gf) #[] lb, .pointer (some ⟨w.heap.size, 0, none⟩), undef, .slice none 0 0, .pointer (some ⟨b5, 0, none⟩), .func (.func gf) #[] lb, .agg #[.int .i64 x.1.g, .int .i64 x.1.p, .int .i64 x.1.h], undef, undef, undef, undef, undef], defers := [] })
    (fun x a' s A B row hs hg hr => by
      obtain ⟨b5, h1, h2⟩ := hs
      exact ⟨b5, blk_grownC h1 hg (fun k e => (hr k e).2), h2⟩) ?assign ?body ?done ?stop
  case assign =>
    rintro l pre x W K ⟨⟨v, hv, hR⟩, hB⟩ hK
    simp only [encSt, St.v]
    gi_wp2
    have hn := hb1 W (.cells #[.int .i64 x.1.g, .int .i64 x.1.p, .int .i64 x.1.h] 87)
    exact hK _ _ ((KeepsOthers.alloc _ _).from _) (KeepT.of_below hn) ⟨⟨v, blk_below hv hn, Kd.R_below hR hn⟩, below_step hB hn⟩ ⟨_, new_blk W _, rfl⟩
  case body =>
    rintro l pre x a' W hl ⟨r, hr⟩ ⟨⟨v, hv, hR⟩, hB⟩ ⟨b5, h5, rfl⟩ hlt
    obtain ⟨c0, c1, c2⟩ := blk3 h5
    have c3 := blk1 hv
    have z5 := blk_lt h5
    have z3 := blk_lt hv
    have HB := Aside0.mk hB
    have HR := Aside0.mk hR
    have HV := Aside0.mk hv
    clear hB hR hv h5
    have hne : some w.heap.size ≠ v.ownBlock := fun e => by have := HR.out.1 _ e.symm; omega
    gi_wp2_with (gi_at_builtin; refine R_appendIn kSt (w0 := w) w.heap.size rfl _ _ 89 87 (.agg #[.int .i64 0, .int .i64 0, .int .i64 0]) 24 rfl Try.underlying89 infoSt rfl (by decide) (by omega) v (pre.map (·.1)) x.1 [.int .i64 x.1.g, .int .i64 x.1.p, .int .i64 x.1.h] (fun k => w.heap.size < k) (fun _ => False) rfl rfl (kSt_mkM _ _ _ _) (fun _ hk => hk.elim) (fun k hk => by have := HB.out.size; omega) HR.out HB.out HB.out.size (by rw [List.length_map]; omega) ?_; intro v2 w2 ho2 hb2 hg2 hat2; obtain ⟨A2, d2, rfl, hl2, hC2⟩ := Kd.R_reads ho2; have HO2 := Aside0.mk ho2; have HB2 := Aside0.mk hb2; have HG2 := Aside0.mk hg2; have HV2 : Aside0 (w2.heap[w.heap.size]? = some (.cells #[v] 89 (0, 0))) := ⟨by rw [hg2.block _ z3 hne]; exact HV.out⟩; have c4 := blk1 HV2.out; have c5 := blk_frozen HV2.out; clear ho2 hb2 hg2 hat2 hC2 c0 c1 c2 c3 z5)
    have z6 := blk_lt HV2.out
    have hown : ∀ k, v.ownBlock = some k → ∀ o, W.heap[k]? = some o → o.isCells = true := fun k hk o ho => by
      obtain ⟨cells, hc⟩ := own_typed HR.out.2.choose_spec.1 k hk
      rw [hc] at ho; cases ho; rfl
    have hf : KeepsFrom (w.alloc (.cells #[.slice none 0 0] 89)).heap.size W w2 := keepS_keeps HG2.out (fun k e => hown k e)
    have hkt : KeepS W w2 := KeepT.grown HG2.out (fun k e c q r hc => by
      obtain ⟨cells, hc'⟩ := own_typed HR.out.2.choose_spec.1 k e
      rw [hc'] at hc; cases hc; decide)
    have hlt2 : (w.alloc (.cells #[.slice none 0 0] 89)).heap.size = w.heap.size + 1 := by simp
    refine ⟨hf.trans ((KeepsOthers.setCell _ _ _).from _), hkt.trans (KeepT.setCell HV2.out (fun c q r e => by cases e; decide)), ⟨⟨_, blk_set HV2.out 0 _, ?_⟩, HB2.out.setCell (p := ⟨w.heap.size, 0, none⟩) (Nat.le_refl _) _⟩⟩
    rw [List.map_append]
    have h2 := Kd.R_far (p := ⟨w.heap.size, 0, none⟩) HO2.out (fun k hk => Nat.ne_of_gt hk) (.slice A2 (pre.length + 1) d2)
    rw [show (pre.map (·.1) ++ [x.1]).length = pre.length + 1 by simp] at h2
    exact h2
  case done =>
    rintro D xs W hD hS ⟨⟨v, hv, hR⟩, hB⟩ hK
    have c3 := blk1 hv
    gi_wp2
    refine ⟨by simp, .inl ⟨_, _, rfl, run_takeDeferred hK, ?_⟩⟩
    refine ⟨_, results_tmp rfl _ _ _, _, rfl, ?_, ?_⟩
    · rw [hS] at hR
      exact Kd.R_mono (R_grown hR (grownBy_putObj' W D (.deferred none)) (fun k e => by cases e; exact ⟨_, hK, rfl⟩)) (fun _ _ => trivial)
    · exact hB.trans (belowK_b (w := w) (Nat.le_refl _) W D _ _ (by simp at hD; omega) hK rfl rfl)
  case stop =>
    rintro D c pre W _ _ h _
    exact h.elim
theorem collect58 (gf : Nat) (lb : Array Value) (L : List St) (hL : L.length ≤ 2) (w : World) (hs : SeqSt 2 gf lb L w) (eg : ∀ args w, (callFunc gf args).run Try.prog w = .ok (.enter gf args) w) :
    Calls Try.prog 58 #[.func (.func gf) #[] lb] w fun e w' => ∃ v, e = .returned v ∧ Kd.R kSt 87 w' w.heap.size (fun _ => True) v L ∧ Below w.heap.size w w' := by
  go_enter Try.func58, Try.ntmps58
  go_wp2_with fail
  with_reducible refine (appendSeq79 gf lb L hL w hs eg).mono ?_
  rintro e w1 ⟨v, rfl, hr, hb⟩
  have HR := Aside0.mk hr
  have HB := Aside0.mk hb
  clear hr hb
  go_wp2
  go_ret
  exact ⟨_, rfl, HR.out, HB.out⟩
theorem steps_enter : ∀ args w, (callFunc 80 args).run Try.prog w = .ok (.enter 80 args) w := enters_of Try.func80 (by kernel_rfl) rfl
def bestF (better : St → St → Bool) : St → List St → St
  | out, [] => out
  | out, x :: xs => bestF better (if better x out then x else out) xs
end Go.Proofs.Ytpoopogojocolaa.P
