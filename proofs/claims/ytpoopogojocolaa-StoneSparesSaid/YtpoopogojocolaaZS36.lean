/- Plain laws of the reference for plans: its heats, how much a plan grinds, when it is safe: they are the program's. -/
import Derived.ChangeKeysEq
import Derived.Test.YtpoopogojocolaaZS34
import Derived.Test.YtpoopogojocolaaZS35
import Derived.Test.YtpoopogojocolaaZS22
namespace Go.Proofs.Ytpoopogojocolaa.P
open Go.RowKit Go.Shelf Go.Proofs.YtpoopogojocolaaW.PrintWords Go.Proofs.YtpoopogojocolaaW.PrintLast Go.Proofs.YtpoopogojocolaaW.PrintMore
set_option linter.unusedVariables false
set_option linter.unusedSimpArgs false
theorem part_row (xs : List Int) (i : Nat) (hi : i < xs.length) (W : World) : (part 2 (xs.map (Value.int .i64)).toArray i).run Try.prog W = .ok (.int .i64 (xs.getD i 0)) W := by
  have hx : (xs.map (Value.int .i64)).toArray[i]? = some (.int .i64 (xs.getD i 0)) := by simp [hi, List.getD_eq_getElem?_getD]
  exact run_part_plain (P := Try.prog) W (by kernel_rfl) hx
theorem eq_int (d : Nat) (a b : Int) (W : World) : (Op.equalIn (d + 1) 2 (.int .i64 a) (.int .i64 b)).run Try.prog W = .ok (a == b) W := by go_simp
theorem eq_items (d : Nat) (xs ys : List Int) (W : World) : ∀ is : List Nat, (∀ i, i ∈ is → i < xs.length ∧ i < ys.length) → (Op.eqItems (d + 1) 2 1 (xs.map (Value.int .i64)).toArray (ys.map (Value.int .i64)).toArray is).run Try.prog W = .ok (is.all (fun i => xs.getD i 0 == ys.getD i 0)) W
  | [], _ => by simp [Op.eqItems]
  | i :: is, h => by
    have h0 := h i List.mem_cons_self
    simp only [Op.eqItems, Nat.mul_one, Sem.run_bind, part_row xs i h0.1, part_row ys i h0.2, Result.andThen_ok, eq_int]
    cases hb : (xs.getD i 0 == ys.getD i 0) with
    | false => simp only [Bool.not_false, if_true, Sem.run_pure, List.all_cons, hb, Bool.false_and]
    | true =>
      have := eq_items d xs ys W is (fun j hj => h j (List.mem_cons_of_mem _ hj))
      simp only [Bool.not_true, Bool.false_eq_true, if_false]
      rw [this, List.all_cons, hb, Bool.true_and]
set_option maxRecDepth 100000 in
theorem equalIn_row (row : List Int) (hr : row.length = 42) (W : World) : (Op.equalIn 10000 85 (.agg (row.map (Value.int .i64)).toArray) (.agg #[.int .i64 0, .int .i64 0, .int .i64 0, .int .i64 0, .int .i64 0, .int .i64 0, .int .i64 0, .int .i64 0, .int .i64 0, .int .i64 0, .int .i64 0, .int .i64 0, .int .i64 0, .int .i64 0, .int .i64 0, .int .i64 0, .int .i64 0, .int .i64 0, .int .i64 0, .int .i64 0, .int .i64 0, .int .i64 0, .int .i64 0, .int .i64 0, .int .i64 0, .int .i64 0, .int .i64 0, .int .i64 0, .int .i64 0, .int .i64 0, .int .i64 0, .int .i64 0, .int .i64 0, .int .i64 0, .int .i64 0, .int .i64 0, .int .i64 0, .int .i64 0, .int .i64 0, .int .i64 0, .int .i64 0, .int .i64 0])).run Try.prog W = .ok (decide (row = List.replicate 42 0)) W := by
  have hz : (#[.int .i64 0, .int .i64 0, .int .i64 0, .int .i64 0, .int .i64 0, .int .i64 0, .int .i64 0, .int .i64 0, .int .i64 0, .int .i64 0, .int .i64 0, .int .i64 0, .int .i64 0, .int .i64 0, .int .i64 0, .int .i64 0, .int .i64 0, .int .i64 0, .int .i64 0, .int .i64 0, .int .i64 0, .int .i64 0, .int .i64 0, .int .i64 0, .int .i64 0, .int .i64 0, .int .i64 0, .int .i64 0, .int .i64 0, .int .i64 0, .int .i64 0, .int .i64 0, .int .i64 0, .int .i64 0, .int .i64 0, .int .i64 0, .int .i64 0, .int .i64 0, .int .i64 0, .int .i64 0, .int .i64 0, .int .i64 0] : Array Value) = ((List.replicate 42 (0 : Int)).map (Value.int .i64)).toArray := by rfl
  rw [hz]
  have h1 : (Op.equalIn Op.maxDepth 85 (.agg (row.map (Value.int .i64)).toArray) (.agg ((List.replicate 42 (0 : Int)).map (Value.int .i64)).toArray)).run Try.prog W = .ok (decide (row = List.replicate 42 0)) W := by
    obtain ⟨i0, hi0, _⟩ := Option.map_eq_some_iff.1 info2
    rw [show Op.maxDepth = 9999 + 1 from rfl, run_equalIn_array (P := Try.prog) W 9999 _ _ Try.underlying85 hi0, show Try.prog.cellsOf 2 = 1 from by kernel_rfl]
    rw [show 9999 = 9998 + 1 from rfl, eq_items 9998 row (List.replicate 42 0) W (List.range 42) (fun i hi => by have := List.mem_range.1 hi; simp [-List.reduceReplicate]; omega)]
    congr 1
    rw [Bool.eq_iff_iff, List.all_eq_true, decide_eq_true_eq]
    constructor
    · intro h
      apply List.ext_getElem (by simp [-List.reduceReplicate, hr])
      intro i h1 h2
      have := h i (List.mem_range.2 (by omega))
      simp only [beq_iff_eq, List.getD_eq_getElem?_getD, List.getElem?_eq_getElem h1, List.getElem?_eq_getElem h2, Option.getD_some] at this
      exact this
    · intro h i _
      rw [h]
      simp
  exact h1
end Go.Proofs.Ytpoopogojocolaa.P
namespace Go.Proofs.Ytpoopogojocolaa.P
open Go.RowKit Go.Shelf Go.Proofs.YtpoopogojocolaaW.PrintWords Go.Proofs.YtpoopogojocolaaW.PrintLast Go.Proofs.YtpoopogojocolaaW.PrintMore
set_option linter.unusedVariables false
set_option linter.unusedSimpArgs false
theorem mx_le {x y z : Int} (h : mx x y ≤ z) : x ≤ z ∧ y ≤ z := by
  unfold mx at h
  split at h <;> omega
theorem mx_of {x y z : Int} (h1 : x ≤ z) (h2 : y ≤ z) : mx x y ≤ z := by
  unfold mx
  split <;> omega
theorem inR_cons {lo hi x : Int} {l : List Int} (h : inR lo hi (x :: l) = true) : lo ≤ x ∧ x ≤ hi ∧ inR lo hi l = true := by
  unfold inR at h ⊢
  rw [List.any_cons, Bool.not_or, Bool.and_eq_true] at h
  obtain ⟨h1, h2⟩ := h
  simp only [Bool.not_eq_true', Bool.or_eq_false_iff, decide_eq_false_iff_not] at h1
  exact ⟨by omega, by omega, h2⟩
theorem rest_rooms {b : Bn} (hm : b.mo = 0) : ∀ (hs : List S73) (heat : Int), (∀ h, h ∈ hs → 0 ≤ h.f0.f1 ∧ h.f0.f1 ≤ 40) → inR 0 b.li (heatsF b true heat (List.replicate hs.length 0) hs) = true → ∀ h, h ∈ hs → h.f0.f1 ≤ b.li
  | [], _, _, _, h, hh => by cases hh
  | a :: hs, heat, hr, hsafe, h, hh => by
    rw [List.length_cons, List.replicate_succ] at hsafe
    unfold heatsF at hsafe
    obtain ⟨_, h1, h2⟩ := inR_cons hsafe
    rcases List.mem_cons.1 hh with rfl | hh
    · have hroom : roomF b true h = h.f0.f1 := by
        unfold roomF
        rw [if_pos rfl, hm, wrap_id] <;> have := hr h List.mem_cons_self <;> omega
      rw [hroom] at h1
      unfold afterF at h1
      rw [if_neg (by decide)] at h1
      exact (mx_le h1).1
    · exact rest_rooms hm hs _ (fun x hx => hr x (List.mem_cons_of_mem _ hx)) h2 h hh
theorem steps_cons {b : Bn} (hG : GoodB b) {h : S73} {heat : Int} (h0 : 0 ≤ heat) (h1 : heat ≤ b.li) (hr : h.f0.f1 ≤ b.li) : ∃ ss, stepsF b h heat b.li = stepF b h heat 0 :: ss ∧ ss.length ≤ 1 := by
  have hl := hG.li1
  have hf := hG.f0
  have hf1 := hG.f1
  have hfit : (stepF b h heat 0).h ≤ b.li := by
    show afterF b heat h.f0.f1 0 ≤ b.li
    unfold afterF
    rw [if_neg (by decide)]
    exact mx_of hr (by rw [wrap_id (by omega) (by omega)]; omega)
  refine ⟨[stepF b h heat 1].filter (fun s => decide (s.h ≤ b.li)), ?_, List.length_filter_le _ _⟩
  unfold stepsF
  rw [List.filter_cons_of_pos (by exact decide_eq_true hfit)]
def greedyF (b : Bn) : List S73 → Nat → Int → List Int
  | [], _, _ => []
  | h :: hs, i, heat => match stepsF b h heat b.li with
    | [] => []
    | s0 :: ss => (bestF (betterF (tvF b) i) s0 ss).g :: greedyF b hs (i + 1) (bestF (betterF (tvF b) i) s0 ss).h
def stone_Plan.f (a0_0 a0_1 a0_2 a0_3 : Int) (l0_4 : List S73) : Option (List Int × Int) :=
  some (if plannedF a0_0 a0_1 a0_2 a0_3 l0_4 = 0 then ((if rowAt ⟨a0_0, a0_1, a0_2, a0_3, l0_4, 0⟩ l0_4 = List.replicate 42 0 then List.replicate l0_4.length 0 else greedyF ⟨a0_0, a0_1, a0_2, a0_3, l0_4, 0⟩ l0_4 0 a0_0), 0) else ([], plannedF a0_0 a0_1 a0_2 a0_3 l0_4))
end Go.Proofs.Ytpoopogojocolaa.P
namespace Go.Proofs.Ytpoopogojocolaa.P
open Go.RowKit Go.Proofs.YtpoopogojocolaaW.PrintWords Go.Proofs.YtpoopogojocolaaW.PrintLast Go.Proofs.YtpoopogojocolaaW.PrintMore
set_option linter.unusedVariables false
set_option linter.unusedSimpArgs false
theorem bad_iff (n : Int) : badN n = true ↔ ¬ (n = 0 ∨ n = 1) := by simp [badN]; omega
theorem pe_loop (p : List Int) (hl : p.length ≤ 1000) : ∀ (d i : Nat), i + d = p.length → Ev (fun k => senvyref02_PlanError.l0 k p i) (if (p.drop i).any badN = true then 3 else 0)
  | 0, i, h => Ev.step (f := fun _ => some _) (fun k => by simp only [senvyref02_PlanError.l0]; rw [if_neg (by omega), List.drop_eq_nil_of_le (by omega)]; rfl) (Ev.now _)
  | d + 1, i, h => by
    obtain ⟨x, hx⟩ := at_lt p (i := i) (by omega)
    rw [drop_cons hx, List.any_cons]
    have hs := bad_iff x
    cases hb : badN x with
    | true =>
      rw [hb] at hs
      have hn := hs.1 rfl
      refine Ev.step (f := fun _ => some 3) (fun k => ?_) (Ev.now _)
      simp only [senvyref02_PlanError.l0]
      rw [if_pos (by omega), if_pos (by omega), rd_at hx, if_neg (by omega), if_neg (by omega)]
    | false =>
      rw [hb] at hs
      have hn : x = 0 ∨ x = 1 := by
        by_cases hc : x = 0 ∨ x = 1
        · exact hc
        · exact absurd (hs.2 hc) (by decide)
      rw [Bool.false_or]
      refine Ev.step (fun k => ?_) (pe_loop p hl d (i + 1) (by omega))
      simp only [senvyref02_PlanError.l0]
      rw [if_pos (by omega), if_pos (by omega), rd_at hx, wrapN (by omega)]
      by_cases h0 : x = 0
      · rw [if_pos h0]
      · rw [if_neg h0, if_pos (by omega)]
theorem pe_ev (s li ga fa : Int) (l : List S73) (p : List Int) (hl : l.length ≤ 1000) (hp : p.length ≤ 1000) : Ev (fun k => senvyref02_PlanError.f k s li ga fa l p) (openF s li ga fa l [p]) := by
  have hcm := cm_ev s li ga fa l hl
  unfold openF
  by_cases h : checkMillF s li ga fa l = 0
  · rw [if_pos h]
    rw [h] at hcm
    refine Ev.bind (f := fun k t => if t = 0 then _ else _) hcm ?_
    by_cases h2 : p.length = l.length
    · have e : plansErrF l.length [p] = if (p.drop 0).any badN = true then 3 else 0 := by
        rw [List.drop_zero]
        by_cases hb : p.any badN = true
        · simp [plansErrF, planErrF, h2, hb]
        · simp [plansErrF, planErrF, h2, hb]
      rw [e]
      refine Ev.congr (f := fun k => senvyref02_PlanError.l0 k p ((0 : Nat) : Int)) (fun k => by rw [if_pos rfl, if_pos (by omega)]; rfl) (pe_loop p hp p.length 0 (by omega))
    · have e : plansErrF l.length [p] = 15 := by simp [plansErrF, planErrF, h2]
      rw [e]
      exact Ev.congr (f := fun _ => some 15) (fun k => by rw [if_pos rfl, if_neg (by omega)]) (Ev.now _)
  · rw [if_neg h]
    refine Ev.bind (f := fun k t => if t = 0 then _ else _) hcm ?_
    refine Ev.congr (f := fun k => (senvyref02_CheckMill.f k s li ga fa l).bind fun t => some t) (fun k => by rw [if_neg h]) ?_
    exact Ev.bind (f := fun _ t => some t) hcm (Ev.now _)
def hOf (ga fa : Int) : List Int → List Int → Int → List Int
  | p :: ps, r :: rs, heat => (if p = 1 then wrap64 (mx heat r + ga) else mx r (wrap64 (heat - fa))) :: hOf ga fa ps rs (if p = 1 then wrap64 (mx heat r + ga) else mx r (wrap64 (heat - fa)))
  | _, _, _ => []
theorem hOf_nil (ga fa : Int) (rs : List Int) (heat : Int) : hOf ga fa [] rs heat = [] := by cases rs <;> rfl
theorem hOf_len (ga fa : Int) : ∀ (ps rs : List Int) (heat : Int), (hOf ga fa ps rs heat).length ≤ ps.length
  | [], rs, _ => by cases rs <;> simp [hOf]
  | p :: ps, [], _ => by simp [hOf]
  | p :: ps, r :: rs, heat => by simp [hOf, hOf_len ga fa ps rs]
theorem heatsF_hOf (b : Bn) (warm : Bool) : ∀ (p : List Int) (hs : List S73) (heat : Int), heatsF b warm heat p hs = hOf b.ga b.fa p (hs.map (roomF b warm)) heat
  | [], hs, heat => by rw [heatsF_nil, hOf_nil]
  | p :: ps, [], heat => rfl
  | p :: ps, h :: hs, heat => by
    show afterF b heat (roomF b warm h) p :: _ = _
    rw [heatsF_hOf b warm ps hs]
    rfl
theorem ho_loop (s li ga fa : Int) (l : List S73) (p r : List Int) (hp : p.length ≤ 1000) (hr : p.length ≤ r.length) :
    ∀ (d i : Nat) (heat : Int) (acc : List Int), i + d = p.length → acc.length ≤ i → Ev (fun k => senvyref02_HeatsOf.l0 k p r heat acc i s li ga fa l) (acc ++ hOf ga fa (p.drop i) (r.drop i) heat)
  | 0, i, heat, acc, h, ha => Ev.step (f := fun _ => some _) (fun k => by simp only [senvyref02_HeatsOf.l0]; rw [if_neg (by omega), show p.drop i = [] from List.drop_eq_nil_of_le (by omega), hOf_nil, List.append_nil]) (Ev.now _)
  | d + 1, i, heat, acc, h, ha => by
    obtain ⟨x, hx⟩ := at_lt p (i := i) (by omega)
    obtain ⟨y, hy⟩ := at_lt r (i := i) (by omega)
    have ih := ho_loop s li ga fa l p r hp hr d (i + 1) (if x = 1 then wrap64 (mx heat y + ga) else mx y (wrap64 (heat - fa))) (acc ++ [if x = 1 then wrap64 (mx heat y + ga) else mx y (wrap64 (heat - fa))]) (by omega) (by simp; omega)
    rw [drop_cons hx, drop_cons hy]
    simp only [hOf]
    rw [List.append_assoc, List.singleton_append] at ih
    refine Ev.step (fun k => ?_) ih
    simp only [senvyref02_HeatsOf.l0]
    rw [if_pos (by omega), if_pos (by omega), if_pos (by omega), rd_at hx, rd_at hy]
    have e : senvyref02_After.f s li ga fa l heat y x = some (if x = 1 then wrap64 (mx heat y + ga) else mx y (wrap64 (heat - fa))) := by
      unfold senvyref02_After.f
      split <;> rfl
    rw [e, Option.bind_some, if_pos (by omega), wrapN (by omega)]
theorem ho_ev (s li ga fa : Int) (l : List S73) (p r : List Int) (heat : Int) (i : Nat) (hi : i ≤ p.length) (hp : p.length ≤ 1000) (hr : p.length ≤ r.length) : Ev (fun k => senvyref02_HeatsOf.f k s li ga fa l p r heat i) (hOf ga fa (p.drop i) (r.drop i) heat) := by
  have := ho_loop s li ga fa l p r hp hr (p.length - i) i heat [] (by omega) (by simp)
  simpa [senvyref02_HeatsOf.f] using this
def rmF (warm : Bool) (h : S73) : Int := if warm = true then h.f0.f1 else h.f0.f0
theorem rm_loop (s li ga fa : Int) (l : List S73) (warm : Bool) (hl : l.length ≤ 1000) :
    ∀ (d i : Nat) (acc : List Int), i + d = l.length → acc.length ≤ i → Ev (fun k => senvyref02_Room.l0 k warm acc i s li ga fa l) (acc ++ (l.drop i).map (rmF warm))
  | 0, i, acc, h, ha => Ev.step (f := fun _ => some _) (fun k => by simp only [senvyref02_Room.l0]; rw [if_neg (by omega), List.drop_eq_nil_of_le (by omega), List.map_nil, List.append_nil]) (Ev.now _)
  | d + 1, i, acc, h, ha => by
    obtain ⟨x, hx⟩ := at_lt l (i := i) (by omega)
    have ih := rm_loop s li ga fa l warm hl d (i + 1) (acc ++ [rmF warm x]) (by omega) (by simp; omega)
    rw [drop_cons hx, List.map_cons]
    rw [List.append_assoc, List.singleton_append] at ih
    refine Ev.step (fun k => ?_) ih
    simp only [senvyref02_Room.l0]
    rw [if_pos (by omega), rd_hour l i hx, wrapN (by omega)]
    cases warm with
    | true => rw [if_pos rfl, if_pos (by omega), if_pos (by omega)]; rfl
    | false => rw [if_neg (by decide), if_pos (by omega), if_pos (by omega)]; rfl
theorem rm_ev (s li ga fa : Int) (l : List S73) (warm : Bool) (hl : l.length ≤ 1000) : Ev (fun k => senvyref02_Room.f k s li ga fa l warm) (l.map (rmF warm)) := by
  have := rm_loop s li ga fa l warm hl l.length 0 [] (by omega) (by simp)
  simpa [senvyref02_Room.f] using this
theorem gr_loop (x : List Int) (hl : x.length ≤ 1000) : ∀ (d i : Nat) (acc : Int), i + d = x.length → Ev (fun k => senvyref02_Greatest.l0 k x acc i) ((x.drop i).foldl mx acc)
  | 0, i, acc, h => Ev.step (f := fun _ => some _) (fun k => by simp only [senvyref02_Greatest.l0]; rw [if_neg (by omega), List.drop_eq_nil_of_le (by omega)]; rfl) (Ev.now _)
  | d + 1, i, acc, h => by
    obtain ⟨y, hy⟩ := at_lt x (i := i) (by omega)
    rw [drop_cons hy, List.foldl_cons]
    refine Ev.step (fun k => ?_) (gr_loop x hl d (i + 1) (mx acc y) (by omega))
    simp only [senvyref02_Greatest.l0]
    rw [if_pos (by omega), if_pos (by omega), rd_at hy, wrapN (by omega)]
theorem gr_ev (x : List Int) (hl : x.length ≤ 1000) : Ev (fun k => senvyref02_Greatest.f k x) (x.foldl mx 0) := by
  have := gr_loop x hl x.length 0 0 (by omega)
  simpa [senvyref02_Greatest.f] using this
theorem is_ev (s li ga fa : Int) (l : List S73) (p r : List Int) (hp : p.length ≤ 1000) (hr : p.length ≤ r.length) : Ev (fun k => senvyref02_Is.f k s li ga fa l p r) (decide ((hOf ga fa p r s).foldl mx 0 ≤ li)) := by
  have h1 := ho_ev s li ga fa l p r s 0 (by omega) hp hr
  rw [List.drop_zero, List.drop_zero] at h1
  have hlen := hOf_len ga fa p r s
  refine Ev.bind (f := fun k t => (senvyref02_Greatest.f k t).bind fun t => some (decide (t ≤ li))) h1 ?_
  exact Ev.bind (f := fun _ t => some (decide (t ≤ li))) (gr_ev _ (by omega)) (Ev.now _)
theorem gs_loop (s li ga fa : Int) (l : List S73) (p : List Int) (hp : p.length ≤ 1000) (hl : p.length ≤ l.length) :
    ∀ (d i : Nat) (acc : Int), i + d = p.length → Ev (fun k => senvyref02_Grinds.l0 k p acc i s li ga fa l) (grindsF (p.drop i) (l.drop i) acc)
  | 0, i, acc, h => Ev.step (f := fun _ => some _) (fun k => by simp only [senvyref02_Grinds.l0]; rw [if_neg (by omega), show p.drop i = [] from List.drop_eq_nil_of_le (by omega), grindsF_nil]) (Ev.now _)
  | d + 1, i, acc, h => by
    obtain ⟨x, hx⟩ := at_lt p (i := i) (by omega)
    obtain ⟨y, hy⟩ := at_lt l (i := i) (by omega)
    rw [drop_cons hx, drop_cons hy]
    simp only [grindsF]
    refine Ev.step (fun k => ?_) (gs_loop s li ga fa l p hp hl d (i + 1) (wrap64 (acc + wrap64 (y.f1 * x))) (by omega))
    simp only [senvyref02_Grinds.l0]
    rw [if_pos (by omega), if_pos (by omega), if_pos (by omega), rd_at hx, rd_hour l i hy, wrapN (by omega), Int.mul_comm]
theorem gs_ev (s li ga fa : Int) (l : List S73) (p : List Int) (hp : p.length ≤ 1000) (hl : p.length ≤ l.length) : Ev (fun k => senvyref02_Grinds.f k s li ga fa l p) (grindsF p l 0) := by
  have := gs_loop s li ga fa l p hp hl p.length 0 0 (by omega)
  simpa [senvyref02_Grinds.f] using this
theorem foldl_mx_le (z : Int) : ∀ (x : List Int) (a : Int), x.foldl mx a ≤ z ↔ a ≤ z ∧ ∀ y, y ∈ x → y ≤ z
  | [], a => by simp
  | y :: ys, a => by
    rw [List.foldl_cons, foldl_mx_le z ys]
    constructor
    · rintro ⟨h1, h2⟩
      have h3 := mx_le h1
      refine ⟨h3.1, fun u hu => ?_⟩
      rcases List.mem_cons.1 hu with rfl | hu
      · exact h3.2
      · exact h2 u hu
    · rintro ⟨h1, h2⟩
      exact ⟨mx_of h1 (h2 y List.mem_cons_self), fun u hu => h2 u (List.mem_cons_of_mem _ hu)⟩
theorem inR_iff (lo hi : Int) (l : List Int) : inR lo hi l = true ↔ ∀ y, y ∈ l → lo ≤ y ∧ y ≤ hi := by
  simp only [inR, Bool.not_eq_true', List.any_eq_false, Bool.or_eq_true, decide_eq_true_eq, not_or, Int.not_lt]
theorem hOf_nonneg {ga fa : Int} (hg : 0 ≤ ga) (hg4 : ga ≤ 40) (hf : 0 ≤ fa) (hf4 : fa ≤ 40) : ∀ (p r : List Int) (heat : Int) (B : Nat), 0 ≤ heat → heat ≤ B → 200 ≤ B → B + 40 * p.length ≤ 1000000 → (∀ y, y ∈ r → 0 ≤ y ∧ y ≤ 200) → ∀ z, z ∈ hOf ga fa p r heat → 0 ≤ z
  | [], r, heat, B, _, _, _, _, _, z, hz => by rw [hOf_nil] at hz; cases hz
  | q :: ps, [], heat, B, _, _, _, _, _, z, hz => by cases hz
  | q :: ps, y :: ys, heat, B, h0, h1, hB, hl, hr, z, hz => by
    have hy := hr y List.mem_cons_self
    have hlen : (q :: ps).length = ps.length + 1 := rfl
    have hc : 0 ≤ (if q = 1 then wrap64 (mx heat y + ga) else mx y (wrap64 (heat - fa))) ∧ (if q = 1 then wrap64 (mx heat y + ga) else mx y (wrap64 (heat - fa))) ≤ (B + 40 : Nat) := by
      have h2 : 0 ≤ mx heat y ∧ mx heat y ≤ B := by unfold mx; split <;> omega
      rw [wrap_id (x := mx heat y + ga) (by omega) (by omega), wrap_id (x := heat - fa) (by omega) (by omega)]
      split
      · omega
      · unfold mx; split <;> omega
    simp only [hOf] at hz
    rcases List.mem_cons.1 hz with rfl | hz
    · exact hc.1
    · exact hOf_nonneg hg hg4 hf hf4 ps ys _ (B + 40) hc.1 hc.2 (by omega) (by omega) (fun u hu => hr u (List.mem_cons_of_mem _ hu)) z hz
theorem roomF_eq {s li ga fa : Int} {l : List S73} (hG : Good s li ga fa l) (warm : Bool) : l.map (roomF ⟨s, li, ga, fa, l, 0⟩ warm) = l.map (rmF warm) := by
  refine List.map_congr_left (fun h hh => ?_)
  have := hG.hs h hh
  unfold roomF rmF
  cases warm with
  | true => simp only [if_true]; rw [Int.add_zero, wrap_id (by omega) (by omega)]
  | false => rfl
theorem rooms_in {s li ga fa : Int} {l : List S73} (hG : Good s li ga fa l) (warm : Bool) : ∀ y, y ∈ l.map (rmF warm) → 0 ≤ y ∧ y ≤ 200 := by
  intro y hy
  obtain ⟨h, hh, rfl⟩ := List.mem_map.1 hy
  have := hG.hs h hh
  unfold rmF
  split <;> omega
theorem heats_eq {s li ga fa : Int} {l : List S73} (hG : Good s li ga fa l) (warm : Bool) (p : List Int) : heatsF ⟨s, li, ga, fa, l, 0⟩ warm s p l = hOf ga fa p (l.map (rmF warm)) s := by
  rw [heatsF_hOf, roomF_eq hG]
theorem safe_eq {s li ga fa : Int} {l : List S73} (hG : Good s li ga fa l) (warm : Bool) (p : List Int) (hp : p.length ≤ 1000) : safeF ⟨s, li, ga, fa, l, 0⟩ warm p = decide ((hOf ga fa p (l.map (rmF warm)) s).foldl mx 0 ≤ li) := by
  have h0 := hG.s0
  have h1 := hG.sl
  have h2 := hG.l4
  rw [Bool.eq_iff_iff, decide_eq_true_eq, foldl_mx_le]
  unfold safeF
  rw [inR_iff]
  dsimp only
  rw [heats_eq hG]
  constructor
  · exact fun h => ⟨by omega, fun y hy => (h y hy).2⟩
  · exact fun h y hy => ⟨hOf_nonneg (by have := hG.g1; omega) hG.g4 (by have := hG.f1; omega) hG.f4 p _ s 200 h0 (by omega) (Nat.le_refl _) (by omega) (rooms_in hG warm) y hy, h.2 y hy⟩
theorem open_zero {s li ga fa : Int} {l : List S73} {p : List Int} (h : openF s li ga fa l [p] = 0) : Good s li ga fa l ∧ p.length = l.length := by
  have h1 := open_good h
  exact ⟨h1.1, (plan_good h1.2).1⟩
theorem plan_ev (s li ga fa : Int) (l : List S73) (p : List Int) (hl : l.length ≤ 1000) (hp : p.length ≤ 1000) : ∃ r, stone_CheckPlan.f s li ga fa l p = some r ∧ Ev (fun k => senvyref02_CheckPlan.f k s li ga fa l p) r := by
  refine ⟨_, rfl, ?_⟩
  have he := pe_ev s li ga fa l p hl hp
  unfold checkedF
  by_cases h : openF s li ga fa l [p] = 0
  · rw [if_pos h]
    obtain ⟨hG, hlen⟩ := open_zero h
    have hs := safe_eq hG true p hp
    have h1 := is_ev s li ga fa l p (l.map (rmF true)) hp (by simp; omega)
    rw [← hs] at h1
    rw [h] at he
    refine Ev.bind (f := fun k t => if t = 0 then _ else _) he ?_
    refine Ev.congr (fun k => if_pos rfl) ?_
    refine Ev.bind (f := fun k t => (senvyref02_Is.f k s li ga fa l p t).bind fun t => if t = true then (senvyref02_Grinds.f k s li ga fa l p).bind fun t => some (t, 0) else some (0, 18)) (rm_ev s li ga fa l true hl) ?_
    refine Ev.bind (f := fun k t => if t = true then (senvyref02_Grinds.f k s li ga fa l p).bind fun t => some (t, 0) else some (0, 18)) h1 ?_
    cases hb : safeF ⟨s, li, ga, fa, l, 0⟩ true p with
    | true => exact Ev.congr (fun k => if_pos rfl) (Ev.bind (f := fun _ t => some (t, 0)) (gs_ev s li ga fa l p hp (by omega)) (Ev.now _))
    | false => exact Ev.congr (f := fun _ => some (0, 18)) (fun k => if_neg (by decide)) (Ev.now _)
  · rw [if_neg h, if_neg h]
    refine Ev.bind (f := fun k t => if t = 0 then _ else _) he ?_
    refine Ev.congr (fun k => if_neg h) ?_
    exact Ev.bind (f := fun _ t => some (0, t)) he (Ev.now _)
end Go.Proofs.Ytpoopogojocolaa.P
