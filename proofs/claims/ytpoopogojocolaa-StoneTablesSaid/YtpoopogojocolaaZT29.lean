/- The contract of stone's reached: the moments of an hour that can be reached, with how much is ground from each on. -/
import Derived.Test.YtpoopogojocolaaZT08
import Derived.Test.YtpoopogojocolaaZT28
namespace Go.Proofs.Ytpoopogojocolaa.P
open Go.RowKit Go.Shelf Go.Proofs.YtpoopogojocolaaW.PrintWords Go.Proofs.YtpoopogojocolaaW.PrintLast Go.Proofs.YtpoopogojocolaaW.PrintMore
open Go.ChangeMaps (setBlock)
attribute [local go_sem] Oper.semAt_some
attribute [local go_sem] max2_mx min2_mn max_two min_two
set_option linter.unusedVariables false
set_option linter.unusedSimpArgs false
def goF (next : List Int) (acc : Int) (s : St) : Int := mx acc (wrap64 (s.p + next.getD s.h.toNat 0))
def cellF (b : Bn) (h : S73) (next : List Int) (heat : Int) : Int := (stepsF b h heat b.li).foldl (goF next) (-1)
def allF (b : Bn) (h : S73) (next : List Int) (n : Nat) : List (Int × Int × Nat) := (List.range n).map (fun (j : Nat) => ((j : Int), cellF b h next j, j))
structure GoodB (b : Bn) : Prop where
  li0 : 0 ≤ b.li
  li1 : b.li ≤ 41
  g0 : 0 ≤ b.ga
  g1 : b.ga ≤ 40
  f0 : 0 ≤ b.fa
  f1 : b.fa ≤ 40
  n : b.l.length ≤ 12
  hs : ∀ h, h ∈ b.l → 0 ≤ h.f0.f1 ∧ h.f0.f1 ≤ 40 ∧ 0 ≤ h.f1 ∧ h.f1 ≤ 100
theorem wrap_id {x : Int} (h0 : -1000000 ≤ x) (h1 : x ≤ 1000000) : wrap64 x = x := by
  unfold wrap64
  omega
theorem after_nonneg {b : Bn} (hG : GoodB b) {heat room g : Int} (h0 : 0 ≤ heat) (h1 : heat ≤ 41) (r0 : 0 ≤ room) (r1 : room ≤ 40) : 0 ≤ afterF b heat room g := by
  have := hG.g0
  have := hG.g1
  unfold afterF
  split
  · have h2 : 0 ≤ mx heat room ∧ mx heat room ≤ 41 := by unfold mx; split <;> omega
    rw [wrap_id (by omega) (by omega)]
    omega
  · unfold mx
    split <;> omega
theorem step_fit {b : Bn} (hG : GoodB b) {h : S73} (hh : h ∈ b.l) {heat li : Int} (h0 : 0 ≤ heat) (h1 : heat ≤ 41) (hl : li ≤ 41) : ∀ s, s ∈ stepsF b h heat li → 0 ≤ s.h ∧ s.h ≤ li ∧ s.h < 42 := by
  intro s hs
  have hb := hG.hs h hh
  unfold stepsF at hs
  rw [List.mem_filter] at hs
  have hle : s.h ≤ li := of_decide_eq_true hs.2
  refine ⟨?_, hle, by omega⟩
  rcases List.mem_cons.1 hs.1 with e | hs
  · rw [e]; exact after_nonneg (g := 0) hG h0 h1 hb.1 hb.2.1
  · rw [List.mem_singleton.1 hs]
    exact after_nonneg (g := 1) hG h0 h1 hb.1 hb.2.1
def seenOf (W : World) (i : Nat) : Array Nat := match W.heap[i]? with
  | some (.mapIter _ _ seen _) => seen
  | _ => #[]
theorem seenOf_at {W : World} {i m s c : Nat} {seen : Array Nat} (h : IterAt W i m s seen c) : seenOf W i = seen := by
  have h1 : W.heap[i]? = some (.mapIter (some m) s seen c) := h
  unfold seenOf
  rw [h1]
def leftN (l : List (Int × Int × Nat)) (seen : Array Nat) : Nat := (l.filter (fun t => !seen.contains t.2.2)).length
theorem leftN_push {l : List (Int × Int × Nat)} {seen : Array Nat} {t : Int × Int × Nat} (ht : t ∈ l) (hs : seen.contains t.2.2 = false) : leftN l (seen.push t.2.2) < leftN l seen := by
  unfold leftN
  have h1 : ∀ u : Int × Int × Nat, (!(seen.push t.2.2).contains u.2.2) = ((!seen.contains u.2.2) && !(u.2.2 == t.2.2)) := fun u => by
    rw [Array.contains_push]
    cases (u.2.2 == t.2.2) <;> cases seen.contains u.2.2 <;> rfl
  have h2 : l.filter (fun u => !(seen.push t.2.2).contains u.2.2) = (l.filter (fun u => !seen.contains u.2.2)).filter (fun u => !(u.2.2 == t.2.2)) := by
    rw [List.filter_filter]
    congr 1
    funext u
    rw [h1, Bool.and_comm]
  rw [h2]
  exact List.length_filter_lt_length_iff_exists.2 ⟨t, List.mem_filter.2 ⟨ht, by rw [hs]; rfl⟩, by simp⟩
theorem allF_nodup (b : Bn) (h : S73) (next : List Int) (n : Nat) : ((allF b h next n).map (·.2.2)).Nodup := by
  unfold allF
  rw [List.map_map]
  exact (List.map_id (List.range n)).symm ▸ List.nodup_range
theorem allF_key {b : Bn} {h : S73} {next : List Int} {n : Nat} {t : Int × Int × Nat} (ht : t ∈ allF b h next n) : t.1 = (t.2.2 : Int) ∧ t.2.2 < n ∧ t.2.1 = cellF b h next t.2.2 := by
  obtain ⟨j, hj, rfl⟩ := List.mem_map.1 ht
  exact ⟨rfl, List.mem_range.1 hj, rfl⟩
theorem eq_of_born : ∀ {l : List (Int × Int × Nat)}, (l.map (·.2.2)).Nodup → ∀ {u t : Int × Int × Nat}, u ∈ l → t ∈ l → u.2.2 = t.2.2 → u = t
  | a :: l, hnd, u, t, hu, ht, e => by
    rw [List.map_cons, List.nodup_cons] at hnd
    rcases List.mem_cons.1 hu with hu1 | hu1 <;> rcases List.mem_cons.1 ht with ht1 | ht1
    · rw [hu1, ht1]
    · exact (hnd.1 (hu1 ▸ e ▸ List.mem_map_of_mem ht1)).elim
    · exact (hnd.1 (ht1 ▸ e ▸ List.mem_map_of_mem hu1)).elim
    · exact eq_of_born hnd.2 hu1 ht1 e
def keptF (l : List (Int × Int × Nat)) (seen : Array Nat) : List (Int × Int × Nat) := l.filter (fun t => decide (0 ≤ t.2.1) || !seen.contains t.2.2)
theorem keptF_none (l : List (Int × Int × Nat)) : keptF l #[] = l := by
  unfold keptF
  rw [List.filter_eq_self]
  intro t _
  simp
theorem keptF_all {l : List (Int × Int × Nat)} {seen : Array Nat} (h : ∀ t, t ∈ l → seen.contains t.2.2 = true) : keptF l seen = l.filter (fun t => decide (0 ≤ t.2.1)) := by
  unfold keptF
  refine List.filter_congr (fun t ht => ?_)
  rw [h t ht]
  simp
theorem keptF_stay {l : List (Int × Int × Nat)} {seen : Array Nat} {t : Int × Int × Nat} (hnd : (l.map (·.2.2)).Nodup) (ht : t ∈ l) (h0 : 0 ≤ t.2.1) : keptF l (seen.push t.2.2) = keptF l seen := by
  unfold keptF
  refine List.filter_congr (fun u hu => ?_)
  by_cases e : u.2.2 = t.2.2
  · obtain rfl : u = t := eq_of_born hnd hu ht e
    simp [h0]
  · rw [Array.contains_push]
    have : (u.2.2 == t.2.2) = false := by simpa using e
    simp [this, e]
theorem keptF_drop {l : List (Int × Int × Nat)} {seen : Array Nat} {t : Int × Int × Nat} (hnd : (l.map (·.2.2)).Nodup) (ht : t ∈ l) (hs : seen.contains t.2.2 = false) (h0 : t.2.1 < 0) :
    ∃ A B, keptF l seen = A ++ t :: B ∧ keptF l (seen.push t.2.2) = A ++ B ∧ ∀ u, u ∈ A → u ∈ l ∧ u.2.2 ≠ t.2.2 := by
  have hm : t ∈ keptF l seen := List.mem_filter.2 ⟨ht, by rw [hs]; simp⟩
  obtain ⟨A, B, hAB⟩ := List.append_of_mem hm
  have hnd2 : ((A ++ t :: B).map (·.2.2)).Nodup := by
    rw [← hAB]
    exact List.Nodup.sublist (List.Sublist.map _ List.filter_sublist) hnd
  rw [List.map_append, List.map_cons, List.nodup_append] at hnd2
  obtain ⟨n1, n2, n3⟩ := hnd2
  have hA : ∀ u, u ∈ A → u.2.2 ≠ t.2.2 := fun u hu e => n3 u.2.2 (List.mem_map_of_mem hu) t.2.2 List.mem_cons_self e
  have hB : ∀ u, u ∈ B → u.2.2 ≠ t.2.2 := fun u hu e => (List.nodup_cons.1 n2).1 (e ▸ List.mem_map_of_mem hu)
  refine ⟨A, B, hAB, ?_, fun u hu => ⟨(List.mem_filter.1 (hAB ▸ List.mem_append_left _ hu : u ∈ keptF l seen)).1, hA u hu⟩⟩
  have h1 : keptF l (seen.push t.2.2) = (keptF l seen).filter (fun u => !(u.2.2 == t.2.2)) := by
    unfold keptF
    rw [List.filter_filter]
    refine List.filter_congr (fun u hu => ?_)
    by_cases e : u.2.2 = t.2.2
    · obtain rfl : u = t := eq_of_born hnd hu ht e
      simp; omega
    · have : (u.2.2 == t.2.2) = false := by simpa using e
      rw [Array.contains_push, this]
      simp [e]
  rw [h1, hAB, List.filter_append, List.filter_cons_of_neg (by simp)]
  congr 1
  · exact List.filter_eq_self.2 (fun u hu => by simpa using hA u hu)
  · exact List.filter_eq_self.2 (fun u hu => by simpa using hB u hu)
theorem allF_succ (b : Bn) (h : S73) (next : List Int) (n : Nat) : allF b h next (n + 1) = allF b h next n ++ [((n : Int), cellF b h next n, n)] := by simp [allF, List.range_succ]
theorem allF_ne {b : Bn} {h : S73} {next : List Int} {n : Nat} : ∀ t, t ∈ allF b h next n → t.1 ≠ (n : Int) := by
  intro t ht
  obtain ⟨j, hj, rfl⟩ := List.mem_map.1 ht
  have := List.mem_range.1 hj
  simp; omega
set_option maxHeartbeats 4000000 in
set_option maxRecDepth 100000 in
theorem reached82 (g : Nat) (b : Bn) (A : Option Addr) (c : Nat) (hour L : Nat) (h : S73) (next : List Int) (w : World) (hG : GoodB b) (hB : BenchAt w g b A c) (hh : b.l[hour]? = some h) (hn : next.length = 42) (hL : b.li = L) (hL1 : L ≤ 41) :
    Calls Try.prog 82 #[.pointer (some ⟨g, 0, none⟩), .int .i64 hour, .agg (next.map (Value.int .i64)).toArray] w fun e w' => ∃ m, e = .returned (.map (some m)) ∧ MapAt w' m hour ((allF b h next (L + 1)).filter (fun t => decide (0 ≤ t.2.1))) (L + 1) ∧ Below w.heap.size w w' := by
  have HN := Aside0.mk hB
  have hmm := @run_makeMap Try.prog
  clear hB
  refine (callsIn_wide (n := 3)).1 ?_
  refine callsIn_of_wp_marks Try.func82 rfl trivial ?_ rfl
  simp only [Try.ntmps82, List.size_toArray, List.length_cons, List.length_nil, Nat.reduceAdd, Nat.reduceSub, Array.replicate_succ, Array.replicate_zero, List.push_toArray, List.append_toArray, List.nil_append, List.cons_append]
  refine wpIn_wide.2 ?_
  go_upto_region 2 with fail
  obtain ⟨Wa, hWa⟩ : ∃ Wa, w.alloc (.cells (next.map (Value.int .i64)).toArray 85) = Wa := ⟨_, rfl⟩
  obtain ⟨Wb, hWb⟩ : ∃ Wb, Wa.alloc (.map #[] 0) = Wb := ⟨_, rfl⟩
  obtain ⟨W1, hW1⟩ : ∃ W1, Wb.alloc (.cells #[.map (some (w.heap.size + 1))] 118) = W1 := ⟨_, rfl⟩
  rw [hWa, hWb, hW1]
  have ea : Wa.heap.size = w.heap.size + 1 := by rw [← hWa]; simp
  have eb : Wb.heap.size = w.heap.size + 1 + 1 := by rw [← hWb, World.size_alloc, ea]
  have ba : Below w.heap.size w Wa := by rw [← hWa]; exact hb1 _ _
  have bb : Below Wa.heap.size Wa Wb := by rw [← hWb]; exact hb1 _ _
  have bc : Below Wb.heap.size Wb W1 := by rw [← hW1]; exact hb1 _ _
  have KX : Aside0 (W1.heap[w.heap.size]? = some (.cells (next.map (Value.int .i64)).toArray 85 (0, 0))) := ⟨blk_below (blk_below (by rw [← hWa]; exact new_blk _ _) bb) bc⟩
  have KM : Aside0 (MapAt W1 (w.heap.size + 1) hour [] 0) := ⟨by
    have : Wb.heap[w.heap.size + 1]? = some (.map #[] 0) := by rw [← hWb, ← ea]; exact new_blk _ _
    unfold MapAt
    rw [bc.block _ (Array.getElem?_eq_some_iff.1 this).1]
    exact this⟩
  have KO : Aside0 (W1.heap[w.heap.size + 1 + 1]? = some (.cells #[.map (some (w.heap.size + 1))] 118 (0, 0))) := ⟨by rw [← hW1, ← eb]; exact new_blk _ _⟩
  have KB := Aside0.mk (below_step (below_step ba bb) bc)
  clear hmm hWa hWb hW1 ea eb ba bb bc
  obtain ⟨c0, c1, c2, c3, c4, c5⟩ := blk6 (HN.out.below KB.out).blk
  rw [hL] at c1
  have z0 := blk_lt (HN.out.below KB.out).blk
  go_wp2
  refine wp_loop (fun a wr => ∃ (k : Nat) (Ds : List Nat) (u8 u9 u10 u21 u22 u23 u24 u25 u26 u27 u28 u29 u30 u31 u32 u33 u34 u35 u36 u37 u38 u39 u40 u41 u42 u43 u44 u45 u46 u47 u48 u49 u50 : Value), k ≤ L + 1 ∧ a = { tmps := #[.pointer (some ⟨g, 0, none⟩), .int .i64 hour, .agg (next.map (Value.int .i64)).toArray, undef, undef, .pointer (some ⟨w.heap.size, 0, none⟩), .map none, .pointer (some ⟨w.heap.size + 1 + 1, 0, none⟩), u8, u9, u10, undef, undef, .map (some (w.heap.size + 1)), .pointer (some ⟨g, 0, none⟩), .pointer (some ⟨g, 0, none⟩), .pointer (some ⟨g, 0, none⟩), .pointer (some ⟨g, 1, none⟩), .int .i64 L, .int .i64 (L + 1), .int .i64 (k : Nat), u21, u22, u23, u24, u25, u26, u27, u28, u29, u30, u31, u32, u33, u34, u35, u36, u37, u38, u39, u40, u41, u42, u43, u44, u45, u46, u47, u48, u49, u50, undef, undef, undef, undef, undef, undef, undef, undef, undef, undef, undef, undef, undef], defers := Ds.map mark } ∧ Aside0 (MapAt wr (w.heap.size + 1) hour (allF b h next k) k) ∧ Aside0 (wr.heap[w.heap.size]? = some (.cells (next.map (Value.int .i64)).toArray 85 (0, 0))) ∧ Aside0 (wr.heap[w.heap.size + 1 + 1]? = some (.cells #[.map (some (w.heap.size + 1))] 118 (0, 0))) ∧ Aside0 (Below w.heap.size w wr) ∧ Aside0 (Marks w.heap.size wr Ds)) (fun a _ => L + 1 - (intOf (a.tmps.getD 20 undef)).toNat) ?_ ?_
  · exact ⟨0, [], undef, undef, undef, undef, undef, undef, undef, undef, undef, undef, undef, undef, undef, undef, undef, undef, undef, undef, undef, undef, undef, undef, undef, undef, undef, undef, undef, undef, undef, undef, undef, undef, undef, by omega, rfl, KM, KX, KO, KB, ⟨marks_nil _ _⟩⟩
  · clear KM KX KO KB c0 c1 c2 c3 c4 c5 z0
    rintro a wr ⟨k, Ds, u8, u9, u10, u21, u22, u23, u24, u25, u26, u27, u28, u29, u30, u31, u32, u33, u34, u35, u36, u37, u38, u39, u40, u41, u42, u43, u44, u45, u46, u47, u48, u49, u50, hk, rfl, HM, HX, HO, HB, HD⟩
    have hnB := HN.out.below HB.out
    obtain ⟨c0, c1, c2, c3, c4, c5⟩ := blk6 hnB.blk
    rw [hL] at c1
    have z0 := blk_lt hnB.blk
    clear hnB c0 c2 c3 c4 c5
    have d0 := blk1 HO.out
    have z1 := blk_lt HO.out
    by_cases hlt : k ≤ L
    · go_wp2_with (at_mapUpdate; refine law_new (h := hour) (x := k) (v := -1) rfl rfl _ _ _ rfl rfl rfl rfl (HM.out.below (hb1 _ _)) allF_ne ?_; intro w2 hm2 hg2; have HM2 := Aside0.mk hm2; have HG2 := Aside0.mk hg2; clear hm2 hg2)
      have hma := HM.out.below (hb1 wr (.cells #[.int .i64 hour, .int .i64 k] 95))
      have HX2 := Aside0.mk (blk_grownC (blk_below HX.out (hb1 _ _)) HG2.out hma.row)
      have HO2 := Aside0.mk (blk_grownC (blk_below HO.out (hb1 _ _)) HG2.out hma.row)
      have HK2 := Aside0.mk (blk_grownC (new_blk wr (.cells #[.int .i64 hour, .int .i64 k] 95)) HG2.out hma.row)
      have HB2 : Aside0 (Below w.heap.size w w2) := ⟨(below_step HB.out (hb1 wr (.cells #[.int .i64 hour, .int .i64 k] 95))).grown HG2.out (below_step HB.out (hb1 _ _)).size (fun k e => by cases e; omega)⟩
      have HD2 := Aside0.mk ((HD.out.below (hb1 wr (.cells #[.int .i64 hour, .int .i64 k] 95))).grown HG2.out hma.nomark)
      clear hma HG2 HM HX HO HB HD c1 z0 d0 z1
      have hnB := HN.out.below HB2.out
      obtain ⟨c0, c1, c2, c3, c4, c5⟩ := blk6 hnB.blk
      rw [hL] at c1
      have z0 := blk_lt hnB.blk
      clear hnB c0 c2 c3 c4 c5
      obtain ⟨k0, k1⟩ := blk2 HK2.out
      have z1 := blk_lt HK2.out
      go_still_tail 7, (by kernel_rfl)
      change wpList _ _ _ _ _ w2.drew
      go_wp2_with fail
      refine (steps59 g hour k L w2.drew).mono ?_
      rintro e w3 ⟨rfl, hbx, hb, hsz⟩
      have hs2 : w2.drew.heap.size = w2.heap.size := rfl
      have hb3 : Below w2.heap.size w2 w3 := (below_drew1 (Below.refl _ _)).trans hb
      rw [hs2] at hsz hbx ⊢
      have HX3 := Aside0.mk (blk_below HX2.out hb3)
      have HO3 := Aside0.mk (blk_below HO2.out hb3)
      have HK3 := Aside0.mk (blk_below HK2.out hb3)
      have HM3 := Aside0.mk (HM2.out.below hb3)
      have HB3 := Aside0.mk (below_step HB2.out hb3)
      have HD3 := Aside0.mk (HD2.out.below hb3)
      have HBX := Aside0.mk hbx
      have hm3 : w.heap.size + 1 < w3.heap.size := HM3.out.lt
      clear hb hb3 hbx hs2 HX2 HO2 HK2 HM2 HB2 HD2 c1 z0 k0 k1 z1
      go_wp2
      have HB0 := Aside0.mk (HN.out.below HB3.out)
      refine (wpIn_wide (n := 3)).1 ?_
      refine wpIn_rangeFunc_ownH rfl (by omega) (gf := 80) (lb := #[.pointer (some ⟨w2.heap.size, 0, none⟩), .pointer (some ⟨w2.heap.size + 1, 0, none⟩), .pointer (some ⟨w2.heap.size + 2, 0, none⟩)]) rfl trivial steps_enter
        (steps80 w2.heap.size g b A c hour k L h w3 hh HB0.out HBX.out)
        (fun h k => h.trans k) (fun W l o o' _ h hc _ => KeepT.putObj o' h hc) (Below.refl _ _) (fun _ => rfl)
        (fun pre W => MapAt W (w.heap.size + 1) hour (allF b h next k ++ [((k : Int), (pre.map (·.1)).foldl (goF next) (-1), k)]) (k + 1) ∧ W.heap[w.heap.size]? = some (.cells (next.map (Value.int .i64)).toArray 85 (0, 0)) ∧ W.heap[w.heap.size + 1 + 1]? = some (.cells #[.map (some (w.heap.size + 1))] 118 (0, 0)) ∧ W.heap[wr.heap.size]? = some (.cells #[.int .i64 hour, .int .i64 k] 95 (0, 0)) ∧ Below w.heap.size w W ∧ Marks w.heap.size W Ds)
        (fun _ _ _ => False)
        (fun s X Y row hs hg hr => by
          obtain ⟨h1, h2, h3, h4, h5, h6⟩ := hs
          refine ⟨h1.grown hg (fun e => by have := (hr _ e.symm).1; omega), blk_grownC h2 hg (fun k e => (hr k e).2), blk_grownC h3 hg (fun k e => (hr k e).2), blk_grownC h4 hg (fun k e => (hr k e).2), h5.grown hg h5.size (fun k e => by have := (hr k e).1; have := HB3.out.size; omega), h6.grown_at hg (fun D hD e => by have := (hr D e.symm).1; have := HD3.out.lt D hD; omega)⟩)
        (fun _ _ _ _ _ hs _ _ => hs)
        ⟨HM3.out, HX3.out, HO3.out, HK3.out, HB3.out, HD3.out⟩
        (fun x a' W => ∃ b10, W.heap[b10]? = some (.cells #[.int .i64 x.1.g, .int .i64 x.1.p, .int .i64 x.1.h] 87 (0, 0)) ∧ a' = { tmps := #[.pointer (some ⟨g, 0, none⟩), .int .i64 hour, .agg (next.map (Value.int .i64)).toArray, undef, undef, .pointer (some ⟨w.heap.size, 0, none⟩), .map none, .pointer (some ⟨w.heap.size + 1 + 1, 0, none⟩), .int .i64 k, .pointer (some ⟨wr.heap.size, 0, none⟩), .pointer (some ⟨b10, 0, none⟩), undef, undef, .map (some (w.heap.size + 1)), .pointer (some ⟨g, 0, none⟩), .pointer (some ⟨g, 0, none⟩), .pointer (some ⟨g, 0, none⟩), .pointer (some ⟨g, 1, none⟩), .int .i64 L, .int .i64 (L + 1), .int .i64 (k : Nat), .bool true, .int .i64 k, .int .i64 hour, .int .i64 k, .agg #[.int .i64 hour, .int .i64 k], .map (some (w.heap.size + 1)), .agg #[.int .i64 hour, .int .i64 k], .pointer (some ⟨g, 0, none⟩), .agg #[.int .i64 hour, .int .i64 k], .pointer (some ⟨g, 0, none⟩), .pointer (some ⟨g, 0, none⟩), .pointer (some ⟨g, 0, none⟩), .pointer (some ⟨g, 1, none⟩), .int .i64 L, .func (.func 80) #[] #[.pointer (some ⟨w2.heap.size, 0, none⟩), .pointer (some ⟨w2.heap.size + 1, 0, none⟩), .pointer (some ⟨w2.heap.size + 2, 0, none⟩)], .agg #[.int .i64 x.1.g, .int .i64 x.1.p, .int .i64 x.1.h], u37, u38, u39, u40, u41, u42, u43, u44, u45, u46, u47, u48, u49, u50, undef, undef, undef, undef, undef, undef, undef, undef, undef, undef, undef, undef, undef], defers := [] })
        (fun x a' s X Y row hs hg hr => by
          obtain ⟨b5, h1, h2⟩ := hs
          exact ⟨b5, blk_grownC h1 hg (fun k e => (hr k e).2), h2⟩) ?assign ?body ?done ?stop
      case assign =>
        rintro l pre x W K ⟨h1, h2, h3, h4, h5, h6⟩ hK
        simp only [St.v]
        gi_wp2
        have hn := hb1 W (.cells #[.int .i64 x.1.g, .int .i64 x.1.p, .int .i64 x.1.h] 87)
        exact hK _ _ ((KeepsOthers.alloc _ _).from _) (KeepT.of_below hn) ⟨h1.below hn, blk_below h2 hn, blk_below h3 hn, blk_below h4 hn, below_step h5 hn, h6.below hn⟩ ⟨_, new_blk W _, rfl⟩
      case body =>
        rintro l pre x a' W hl ⟨r, hr⟩ ⟨h1, h2, h3, h4, h5, h6⟩ ⟨b10, h10, rfl⟩ hlt2
        have hfit := step_fit hG (List.mem_of_getElem? hh) (heat := k) (li := L) (by omega) (by omega) (by omega) x.1 x.2
        obtain ⟨⟨xg, xp, xh⟩, hx⟩ := x
        dsimp only at hfit h10 ⊢
        obtain ⟨f0, f1, f2⟩ := hfit
        obtain ⟨a, rfl⟩ := Int.eq_ofNat_of_zero_le f0
        obtain ⟨nv, hnv⟩ : ∃ nv, next[a]? = some nv := ⟨_, List.getElem?_eq_getElem (by omega)⟩
        have e0 : W.cell? ⟨w.heap.size, a, none⟩ = some (.int .i64 nv) := by rw [cell_of_row _ _ _ _ _ _ h2]; simp [hnv]
        obtain ⟨e1, e2⟩ := blk2 h4
        have e3 := blk1 h3
        obtain ⟨e4, e5, e6⟩ := blk3 h10
        have HM5 := Aside0.mk h1
        have H2 := Aside0.mk h2
        have H3 := Aside0.mk h3
        have H4 := Aside0.mk h4
        have H5 := Aside0.mk h5
        have H6 := Aside0.mk h6
        clear h1 h2 h3 h4 h5 h6 h10
        gi_wp2
        refine wpIn_region_still_tail 13 (by rintro ⟨a, w, h⟩; exact h) (by rfl) (by kernel_rfl) (by kernel_rfl) ?_
        simp only [List.take_succ_cons, List.take_zero, List.drop_succ_cons, List.drop_zero]
        repeat still_step
        obtain ⟨ac, hac⟩ : ∃ ac, Aside0 ((pre.map (·.1)).foldl (goF next) (-1) = ac) := ⟨_, ⟨rfl⟩⟩
        rw [hac.out] at HM5
        refine still_look (h := hour) (x := k) (l := allF b h next k) (r := []) (v := ac) rfl _ _ rfl rfl rfl HM5.out allF_ne ?_
        repeat still_step
        try refine wpStill_nil ?_
        change wpList _ _ _ _ _ W.drew
        have HMd : MapAt W.drew (w.heap.size + 1) hour (allF b h next k ++ [((k : Int), ac, k)]) (k + 1) := HM5.out
        refine law_put (h := hour) (x := k) (u := ac) (b := k) (v := mx ac (IntKind.i64.wrap (xp + nv))) rfl rfl _ _ _ rfl rfl rfl rfl HMd allF_ne ?_
        intro W5 hm5 hg5
        refine wpList_nil ?_
        have hg : W.grownBy W5 (some (w.heap.size + 1)) := ⟨hg5.os, hg5.tape, hg5.output, hg5.size, hg5.block⟩
        have hrow := HM5.out.row
        have hacn : ((pre ++ [(⟨⟨xg, xp, (a : Int)⟩, hx⟩ : Sub (stepsF b h k L))]).map (·.1)).foldl (goF next) (-1) = mx ac (IntKind.i64.wrap (xp + nv)) := by
          rw [List.map_append, List.foldl_append, hac.out, IntWalk.i64_left]
          simp [goF, List.getD_eq_getElem?_getD, hnv]
        refine ⟨KeepsFrom.of_grownBy hg (fun j e => by cases e; exact hm3), KeepT.grown hg (fun k e c q r hc => by obtain ⟨o, ho, hoc⟩ := hrow k e; rw [ho] at hc; cases hc; cases hoc), ?_⟩
        refine ⟨by rw [hacn]; exact hm5, blk_grownC H2.out hg hrow, blk_grownC H3.out hg hrow, blk_grownC H4.out hg hrow, H5.out.grown hg H5.out.size (fun k e => by cases e; omega), H6.out.grown hg HM5.out.nomark⟩
      case done =>
        rintro D xs W hD hS ⟨h1, h2, h3, h4, h5, h6⟩ hK
        have e1 : allF b h next (k + 1) = allF b h next k ++ [((k : Int), (xs.map (·.1)).foldl (goF next) (-1), k)] := by rw [allF_succ, hS, cellF, hL]
        rw [← e1] at h1
        have hM6 := Marks.cons h6 (by have := HB3.out.size; omega) (fun hm => by have := HD3.out.lt D hm; omega) hK
        have H1 := Aside0.mk h1
        have H2 := Aside0.mk h2
        have H3 := Aside0.mk h3
        have H5 := Aside0.mk h5
        have H6 := Aside0.mk hM6
        clear h1 h2 h3 h4 h5 h6 hM6
        go_wp2
        refine ⟨⟨k + 1, D :: Ds, _, _, _, _, _, _, _, _, _, _, _, _, _, _, _, _, _, _, _, _, _, _, _, _, _, _, _, _, _, _, _, _, _, by omega, rfl, H1, H2, H3, H5, H6⟩, ?_⟩
        show L + 1 - (intOf (.int .i64 ((k : Int) + 1))).toNat < L + 1 - (intOf (.int .i64 (k : Int))).toNat
        simp [intOf]
        omega
      case stop =>
        rintro D c pre W _ _ h _
        exact h.elim
    · obtain rfl : k = L + 1 := by omega
      go_wp2_with fail
      refine (clone86 (w.heap.size + 1) hour (allF b h next (L + 1)) (L + 1) wr HM.out).mono ?_
      rintro e w4 ⟨rfl, rfl⟩
      have hn4 := hb1 wr (.map (ents hour (allF b h next (L + 1))) (L + 1))
      have HC : Aside0 (MapAt (wr.alloc (.map (ents hour (allF b h next (L + 1))) (L + 1))) wr.heap.size hour (allF b h next (L + 1)) (L + 1)) := ⟨new_blk _ _⟩
      have HM4 := Aside0.mk (HM.out.below hn4)
      have HO4 := Aside0.mk (blk_below HO.out hn4)
      have HB4 := Aside0.mk (below_step HB.out hn4)
      have HD4 := Aside0.mk (HD.out.below hn4)
      have hne : w.heap.size + 1 ≠ wr.heap.size := fun e => by have := HM.out.lt; omega
      have hge := HB.out.size
      generalize wr.alloc (.map (ents hour (allF b h next (L + 1))) (L + 1)) = w4 at *
      clear hn4 HM HX HO HB HD c1 z0 d0 z1
      go_wp2_with (at_range; refine law_range rfl _ rfl rfl HC.out ?_; intro hit; have HI := Aside0.mk hit; clear hit; go_simp)
      obtain ⟨W6, hW6⟩ : ∃ W6, w4.alloc (.mapIter (some wr.heap.size) (L + 1) #[] (L + 1)) = W6 := ⟨_, rfl⟩
      have hn6 : Below w4.heap.size w4 W6 := by rw [← hW6]; exact hb1 _ _
      rw [hW6] at HI ⊢
      clear hW6
      have HC6 := Aside0.mk (HC.out.below hn6)
      have HM6 := Aside0.mk (HM4.out.below hn6)
      have HO6 := Aside0.mk (blk_below HO4.out hn6)
      have HB6 := Aside0.mk (below_step HB4.out hn6)
      have HD6 := Aside0.mk (HD4.out.below hn6)
      have hi1 : w.heap.size ≤ w4.heap.size := HB4.out.size
      have hi2 : wr.heap.size < w4.heap.size := HC.out.lt
      have hi3 : w.heap.size + 1 < w4.heap.size := HM4.out.lt
      have hi4 : w.heap.size + 1 + 1 < w4.heap.size := blk_lt HO4.out
      have hi5 := HD4.out.lt
      clear HC HM4 HO4 HB4 HD4 hn6
      generalize w4.heap.size = it at *
      generalize wr.heap.size = mc at *
      obtain ⟨l, hl⟩ : ∃ l, Aside0 (allF b h next (L + 1) = l) := ⟨_, ⟨rfl⟩⟩
      have hnd : (l.map (·.2.2)).Nodup := by rw [← hl.out]; exact allF_nodup _ _ _ _
      have hkey : ∀ t, t ∈ l → t.1 = (t.2.2 : Int) ∧ t.2.2 < L + 1 := fun t ht => by rw [← hl.out] at ht; exact ⟨(allF_key ht).1, (allF_key ht).2.1⟩
      rw [hl.out] at HC6 HM6
      go_loopw [12] (fun v wr2 => ∃ seen, Aside0 (IterAt wr2 it mc (L + 1) seen (L + 1)) ∧ Aside0 (MapAt wr2 mc hour l (L + 1)) ∧ Aside0 (MapAt wr2 (w.heap.size + 1) hour (keptF l seen) (L + 1)) ∧ Aside0 (wr2.heap[w.heap.size + 1 + 1]? = some (.cells #[.map (some (w.heap.size + 1))] 118 (0, 0))) ∧ Aside0 (Below w.heap.size w wr2) ∧ Aside0 (Marks w.heap.size wr2 Ds)) (fun _ wr2 => leftN l (seenOf wr2 it))
      case atStart => exact ⟨#[], HI, HC6, by rw [keptF_none]; exact HM6, HO6, HB6, HD6⟩
      case round =>
        clear HI HC6 HM6 HO6 HB6 HD6
        obtain ⟨seen, HI, HC, HM, HO, HB, HD⟩ := hrel
        go_wp2_with (at_next; refine law_next rfl _ rfl rfl HI.out HC.out (fun t ht => (hkey t ht).2) (Nat.le_refl _) hnd ?_ ?_)
        · intro hd
          have hall : ∀ t, t ∈ l → seen.contains t.2.2 = true := fun t ht => by simpa using hd.out t.1 t.2.1 t.2.2 ht
          have d0 := blk1 HO.out
          have z1 := blk_lt HO.out
          have HM' := HM.out
          rw [keptF_all hall] at HM'
          have HM2 := Aside0.mk HM'
          clear HM' HM hd hall
          go_simp
          go_wp2
          refine leaves_marks (fn := Try.f82) (B := w.heap.size) (.map (some (w.heap.size + 1))) (fun W => MapAt W (w.heap.size + 1) hour (l.filter (fun t => decide (0 ≤ t.2.1))) (L + 1) ∧ Below w.heap.size w W) ?_ ?_ ?_ Ds _ HD.out ⟨HM2.out, HB.out⟩
          · rintro W D ⟨h1, h2⟩ hD hd
            have hne : w.heap.size + 1 ≠ D := fun e => by
              have h3 : W.heap[w.heap.size + 1]? = _ := h1
              rw [e, hd] at h3
              cases h3
            exact ⟨h1.grown (grownBy_putObj' W D (.deferred none)) (fun e => hne (by injection e)), h2.trans (belowK_b (w := w) (Nat.le_refl _) W D _ _ hD hd rfl rfl)⟩
          · intro W _
            exact results_tmp (fn := Try.f82) (t := 6) rfl _ _ _
          · rintro W ⟨h1, h2⟩
            exact ⟨_, rfl, by rw [hl.out]; exact h1, h2⟩
        · intro x v bo W' hx hi' hg hen
          have HM2 : Aside0 (MapAt W' (w.heap.size + 1) hour (keptF l seen) (L + 1)) := ⟨HM.out.grown hg.out (fun e => by injection e with e; omega)⟩
          have HC2 : Aside0 (MapAt W' mc hour l (L + 1)) := ⟨HC.out.grown hg.out (fun e => by injection e with e; omega)⟩
          have hrow : ∀ k, some it = some k → ∃ o : Obj, wr.heap[k]? = some o ∧ o.isCells = false := fun k e => by
            injection e with e
            subst e
            exact ⟨_, HI.out, rfl⟩
          have HO2 := Aside0.mk (blk_grownC HO.out hg.out hrow)
          have HB2 : Aside0 (Below w.heap.size w W') := ⟨HB.out.grown hg.out HB.out.size (fun k e => by injection e with e; omega)⟩
          have HD2 : Aside0 (Marks w.heap.size W' Ds) := ⟨HD.out.grown_at hg.out (fun D hD e => by injection e with e; have := hi5 D hD; omega)⟩
          have hlf : Aside0 (leftN l (seen.push bo) < leftN l (seenOf wr it)) := ⟨by rw [seenOf_at HI.out]; exact leftN_push (t := (x, v, bo)) hx.out.1 (by simpa using hx.out.2)⟩
          have HX := Aside0.mk hx.out
          have HI2 := Aside0.mk hi'.out
          clear HM HC HO HB HD HI hg hx hi' hrow
          have d0 := blk1 HO2.out
          have z1 := blk_lt HO2.out
          by_cases hv : v < 0
          · obtain ⟨A1, B1, hAB, hAB2, hA1⟩ := keptF_drop (t := (x, v, bo)) hnd HX.out.1 (by simpa using HX.out.2) hv
            have hn7 := hb1 W' (.cells #[.int .i64 hour, .int .i64 x] 95)
            have HM7 := HM2.out.below hn7
            rw [hAB] at HM7
            have hdel := run_delete (0 : Nat) HM7 (fun u hu e => (hA1 u hu).2 (by have h1 := (hkey u (hA1 u hu).1).1; have h2 := (hkey _ HX.out.1).1; dsimp only at h2; rw [h1, h2] at e; exact Int.ofNat_inj.1 e))
            have HC7 := HC2.out.below hn7
            have HO7 := blk_below HO2.out hn7
            have HB7 := below_step HB2.out hn7
            have HD7 := HD2.out.below hn7
            have HI7 : IterAt (W'.alloc (.cells #[.int .i64 hour, .int .i64 x] 95)) it mc (L + 1) (seen.push bo) (L + 1) := by
              have h1 : W'.heap[it]? = _ := HI2.out
              unfold IterAt
              rw [hn7.block _ (Array.getElem?_eq_some_iff.1 h1).1]
              exact h1
            have hg8 := grown_set (W := W'.alloc (.cells #[.int .i64 hour, .int .i64 x] 95)) (m := w.heap.size + 1) (.map (ents hour (A1 ++ B1)) (L + 1))
            have hm8 := sb_same HM7 (.map (ents hour (A1 ++ B1)) (L + 1))
            have HM8 : Aside0 (MapAt (setBlock (W'.alloc (.cells #[.int .i64 hour, .int .i64 x] 95)) (w.heap.size + 1) (.map (ents hour (A1 ++ B1)) (L + 1))) (w.heap.size + 1) hour (keptF l (seen.push bo)) (L + 1)) := ⟨by rw [hAB2]; exact hm8⟩
            have HC8 := Aside0.mk (HC7.grown hg8 (fun e => by injection e with e; omega))
            have HO8 := Aside0.mk (blk_grownC HO7 hg8 HM7.row)
            have HB8 := Aside0.mk (HB7.grown hg8 HB7.size (fun k e => by injection e with e; omega))
            have HD8 := Aside0.mk (HD7.grown hg8 HM7.nomark)
            have HI8 : Aside0 (IterAt (setBlock (W'.alloc (.cells #[.int .i64 hour, .int .i64 x] 95)) (w.heap.size + 1) (.map (ents hour (A1 ++ B1)) (L + 1))) it mc (L + 1) (seen.push bo) (L + 1)) := ⟨by
              unfold IterAt
              rw [sb_other _ _ (by omega)]
              exact HI7⟩
            generalize setBlock (W'.alloc (.cells #[.int .i64 hour, .int .i64 x] 95)) (w.heap.size + 1) (.map (ents hour (A1 ++ B1)) (L + 1)) = W8 at *
            clear hn7 HM7 HC7 HO7 HB7 HD7 HI7 hg8 hm8 HM2 HC2 HO2 HB2 HD2 HI2 hAB hAB2 hA1
            unfold kv at hdel
            go_simp
            go_wp2
            exact ⟨⟨seen.push bo, HI8, HC8, HM8, HO8, HB8, HD8⟩, by rw [seenOf_at HI8.out]; exact hlf.out⟩
          · have hn7 := hb1 W' (.cells #[.int .i64 hour, .int .i64 x] 95)
            have HM7 : Aside0 (MapAt (W'.alloc (.cells #[.int .i64 hour, .int .i64 x] 95)) (w.heap.size + 1) hour (keptF l (seen.push bo)) (L + 1)) := ⟨by
              rw [keptF_stay (t := (x, v, bo)) hnd HX.out.1 (by dsimp only; omega)]
              exact HM2.out.below hn7⟩
            have HC7 := Aside0.mk (HC2.out.below hn7)
            have HO7 := Aside0.mk (blk_below HO2.out hn7)
            have HB7 := Aside0.mk (below_step HB2.out hn7)
            have HD7 := Aside0.mk (HD2.out.below hn7)
            have HI7 : Aside0 (IterAt (W'.alloc (.cells #[.int .i64 hour, .int .i64 x] 95)) it mc (L + 1) (seen.push bo) (L + 1)) := ⟨by
              have h1 : W'.heap[it]? = _ := HI2.out
              unfold IterAt
              rw [hn7.block _ (Array.getElem?_eq_some_iff.1 h1).1]
              exact h1⟩
            have hv' : decide (v < 0) = false := by simp; omega
            go_simp
            go_wp2
            exact ⟨⟨seen.push bo, HI7, HC7, HM7, HO7, HB7, HD7⟩, by rw [seenOf_at HI7.out]; exact hlf.out⟩
end Go.Proofs.Ytpoopogojocolaa.P
