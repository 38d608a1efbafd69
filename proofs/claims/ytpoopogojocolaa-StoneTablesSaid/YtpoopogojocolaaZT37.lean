/- What the walks of this seat's program functions share: an append to a slice that is cut at its own length (xs[:n:n]): it makes a new row. No condition: it tells nothing of the program. -/
import Derived.ChangeKeysEq
import Derived.Test.YtpoopogojocolaaZT35
import Derived.Test.YtpoopogojocolaaZT36
import Derived.Test.YtpoopogojocolaaZT24
import Derived.ArgAppend
import Derived.Test.YtpoopogojocolaaZT07
namespace Go.Proofs.Ytpoopogojocolaa.P
open Go.RowKit Go.Shelf Go.Proofs.YtpoopogojocolaaW.PrintWords Go.Proofs.YtpoopogojocolaaW.PrintLast Go.Proofs.YtpoopogojocolaaW.PrintMore
set_option linter.unusedVariables false
set_option linter.unusedSimpArgs false
theorem part_row (xs : List Int) (i : Nat) (hi : i < xs.length) (W : World) : (part 2 (xs.map (Value.int .i64)).toArray i).run Try.prog W = .ok (.int .i64 (xs.getD i 0)) W := by
  have hx : (xs.map (Value.int .i64)).toArray[i]? = some (.int .i64 (xs.getD i 0)) := by simp [hi, List.getD_eq_getElem?_getD]
  exact run_part_plain (P := Try.prog) W (by kernel_rfl) hx
theorem eq_int (d : Nat) (a b : Int) (W : World) : (Op.equalIn (d + 1) 2 (.int .i64 a) (.int .i64 b)).run Try.prog W = .ok (a == b) W := by go_simp
theorem eq_items (d : Nat) (xs ys : List Int) (W : World) : ∀ is : List Nat, (∀ i, i ∈ is → i < xs.length ∧ i < ys.length) → (Op.eqItems (d + 1) 2 1 (xs.map (Value.int .i64)).toArray (ys.map (Value.int .i64)).toArray is).run Try.prog W = .ok (is.all (fun i => xs.getD i 0 == ys.getD i 0)) W
  | [], _ => by simp [Op.eqItems]
  | i :: is, h => by
    have h0 := h i List.mem_cons_self
    simp only [Op.eqItems, Nat.mul_one, Sem.run_bind, part_row xs i h0.1, part_row ys i h0.2, Result.andThen_ok, eq_int]
    cases hb : (xs.getD i 0 == ys.getD i 0) with
    | false => simp only [Bool.not_false, if_true, Sem.run_pure, List.all_cons, hb, Bool.false_and]
    | true =>
      have := eq_items d xs ys W is (fun j hj => h j (List.mem_cons_of_mem _ hj))
      simp only [Bool.not_true, Bool.false_eq_true, if_false]
      rw [this, List.all_cons, hb, Bool.true_and]
set_option maxRecDepth 100000 in
theorem equalIn_row (row : List Int) (hr : row.length = 42) (W : World) : (Op.equalIn 10000 85 (.agg (row.map (Value.int .i64)).toArray) (.agg #[.int .i64 0, .int .i64 0, .int .i64 0, .int .i64 0, .int .i64 0, .int .i64 0, .int .i64 0, .int .i64 0, .int .i64 0, .int .i64 0, .int .i64 0, .int .i64 0, .int .i64 0, .int .i64 0, .int .i64 0, .int .i64 0, .int .i64 0, .int .i64 0, .int .i64 0, .int .i64 0, .int .i64 0, .int .i64 0, .int .i64 0, .int .i64 0, .int .i64 0, .int .i64 0, .int .i64 0, .int .i64 0, .int .i64 0, .int .i64 0, .int .i64 0, .int .i64 0, .int .i64 0, .int .i64 0, .int .i64 0, .int .i64 0, .int .i64 0, .int .i64 0, .int .i64 0, .int .i64 0, .int .i64 0, .int .i64 0])).run Try.prog W = .ok (decide (row = List.replicate 42 0)) W := by
  have hz : (#[.int .i64 0, .int .i64 0, .int .i64 0, .int .i64 0, .int .i64 0, .int .i64 0, .int .i64 0, .int .i64 0, .int .i64 0, .int .i64 0, .int .i64 0, .int .i64 0, .int .i64 0, .int .i64 0, .int .i64 0, .int .i64 0, .int .i64 0, .int .i64 0, .int .i64 0, .int .i64 0, .int .i64 0, .int .i64 0, .int .i64 0, .int .i64 0, .int .i64 0, .int .i64 0, .int .i64 0, .int .i64 0, .int .i64 0, .int .i64 0, .int .i64 0, .int .i64 0, .int .i64 0, .int .i64 0, .int .i64 0, .int .i64 0, .int .i64 0, .int .i64 0, .int .i64 0, .int .i64 0, .int .i64 0, .int .i64 0] : Array Value) = ((List.replicate 42 (0 : Int)).map (Value.int .i64)).toArray := by rfl
  rw [hz]
  have h1 : (Op.equalIn Op.maxDepth 85 (.agg (row.map (Value.int .i64)).toArray) (.agg ((List.replicate 42 (0 : Int)).map (Value.int .i64)).toArray)).run Try.prog W = .ok (decide (row = List.replicate 42 0)) W := by
    obtain ⟨i0, hi0, _⟩ := Option.map_eq_some_iff.1 info2
    rw [show Op.maxDepth = 9999 + 1 from rfl, run_equalIn_array (P := Try.prog) W 9999 _ _ Try.underlying85 hi0, show Try.prog.cellsOf 2 = 1 from by kernel_rfl]
    rw [show 9999 = 9998 + 1 from rfl, eq_items 9998 row (List.replicate 42 0) W (List.range 42) (fun i hi => by have := List.mem_range.1 hi; simp [-List.reduceReplicate]; omega)]
    congr 1
    rw [Bool.eq_iff_iff, List.all_eq_true, decide_eq_true_eq]
    constructor
    · intro h
      apply List.ext_getElem (by simp [-List.reduceReplicate, hr])
      intro i h1 h2
      have := h i (List.mem_range.2 (by omega))
      simp only [beq_iff_eq, List.getD_eq_getElem?_getD, List.getElem?_eq_getElem h1, List.getElem?_eq_getElem h2, Option.getD_some] at this
      exact this
    · intro h i _
      rw [h]
      simp
  exact h1
end Go.Proofs.Ytpoopogojocolaa.P
namespace Go.Proofs.Ytpoopogojocolaa.P
open Go.RowKit Go.Shelf Go.Proofs.YtpoopogojocolaaW.PrintWords Go.Proofs.YtpoopogojocolaaW.PrintLast Go.Proofs.YtpoopogojocolaaW.PrintMore
set_option linter.unusedVariables false
set_option linter.unusedSimpArgs false
theorem mx_le {x y z : Int} (h : mx x y ≤ z) : x ≤ z ∧ y ≤ z := by
  unfold mx at h
  split at h <;> omega
theorem mx_of {x y z : Int} (h1 : x ≤ z) (h2 : y ≤ z) : mx x y ≤ z := by
  unfold mx
  split <;> omega
theorem inR_cons {lo hi x : Int} {l : List Int} (h : inR lo hi (x :: l) = true) : lo ≤ x ∧ x ≤ hi ∧ inR lo hi l = true := by
  unfold inR at h ⊢
  rw [List.any_cons, Bool.not_or, Bool.and_eq_true] at h
  obtain ⟨h1, h2⟩ := h
  simp only [Bool.not_eq_true', Bool.or_eq_false_iff, decide_eq_false_iff_not] at h1
  exact ⟨by omega, by omega, h2⟩
theorem rest_rooms {b : Bn} (hm : b.mo = 0) : ∀ (hs : List S73) (heat : Int), (∀ h, h ∈ hs → 0 ≤ h.f0.f1 ∧ h.f0.f1 ≤ 40) → inR 0 b.li (heatsF b true heat (List.replicate hs.length 0) hs) = true → ∀ h, h ∈ hs → h.f0.f1 ≤ b.li
  | [], _, _, _, h, hh => by cases hh
  | a :: hs, heat, hr, hsafe, h, hh => by
    rw [List.length_cons, List.replicate_succ] at hsafe
    unfold heatsF at hsafe
    obtain ⟨_, h1, h2⟩ := inR_cons hsafe
    rcases List.mem_cons.1 hh with rfl | hh
    · have hroom : roomF b true h = h.f0.f1 := by
        unfold roomF
        rw [if_pos rfl, hm, wrap_id] <;> have := hr h List.mem_cons_self <;> omega
      rw [hroom] at h1
      unfold afterF at h1
      rw [if_neg (by decide)] at h1
      exact (mx_le h1).1
    · exact rest_rooms hm hs _ (fun x hx => hr x (List.mem_cons_of_mem _ hx)) h2 h hh
theorem steps_cons {b : Bn} (hG : GoodB b) {h : S73} {heat : Int} (h0 : 0 ≤ heat) (h1 : heat ≤ b.li) (hr : h.f0.f1 ≤ b.li) : ∃ ss, stepsF b h heat b.li = stepF b h heat 0 :: ss ∧ ss.length ≤ 1 := by
  have hl := hG.li1
  have hf := hG.f0
  have hf1 := hG.f1
  have hfit : (stepF b h heat 0).h ≤ b.li := by
    show afterF b heat h.f0.f1 0 ≤ b.li
    unfold afterF
    rw [if_neg (by decide)]
    exact mx_of hr (by rw [wrap_id (by omega) (by omega)]; omega)
  refine ⟨[stepF b h heat 1].filter (fun s => decide (s.h ≤ b.li)), ?_, List.length_filter_le _ _⟩
  unfold stepsF
  rw [List.filter_cons_of_pos (by exact decide_eq_true hfit)]
def greedyF (b : Bn) : List S73 → Nat → Int → List Int
  | [], _, _ => []
  | h :: hs, i, heat => match stepsF b h heat b.li with
    | [] => []
    | s0 :: ss => (bestF (betterF (tvF b) i) s0 ss).g :: greedyF b hs (i + 1) (bestF (betterF (tvF b) i) s0 ss).h
def stone_Plan.f (a0_0 a0_1 a0_2 a0_3 : Int) (l0_4 : List S73) : Option (List Int × Int) :=
  some (if plannedF a0_0 a0_1 a0_2 a0_3 l0_4 = 0 then ((if rowAt ⟨a0_0, a0_1, a0_2, a0_3, l0_4, 0⟩ l0_4 = List.replicate 42 0 then List.replicate l0_4.length 0 else greedyF ⟨a0_0, a0_1, a0_2, a0_3, l0_4, 0⟩ l0_4 0 a0_0), 0) else ([], plannedF a0_0 a0_1 a0_2 a0_3 l0_4))
end Go.Proofs.Ytpoopogojocolaa.P
namespace Go.Proofs.Ytpoopogojocolaa.P
open Go.RowKit Go.Proofs.YtpoopogojocolaaW.PrintWords Go.Proofs.YtpoopogojocolaaW.PrintLast Go.Proofs.YtpoopogojocolaaW.PrintMore
set_option linter.unusedVariables false
set_option linter.unusedSimpArgs false
def hOf (ga fa : Int) : List Int → List Int → Int → List Int
  | p :: ps, r :: rs, heat => (if p = 1 then wrap64 (mx heat r + ga) else mx r (wrap64 (heat - fa))) :: hOf ga fa ps rs (if p = 1 then wrap64 (mx heat r + ga) else mx r (wrap64 (heat - fa)))
  | _, _, _ => []
theorem hOf_nil (ga fa : Int) (rs : List Int) (heat : Int) : hOf ga fa [] rs heat = [] := by cases rs <;> rfl
theorem hOf_len (ga fa : Int) : ∀ (ps rs : List Int) (heat : Int), (hOf ga fa ps rs heat).length ≤ ps.length
  | [], rs, _ => by cases rs <;> simp [hOf]
  | p :: ps, [], _ => by simp [hOf]
  | p :: ps, r :: rs, heat => by simp [hOf, hOf_len ga fa ps rs]
theorem heatsF_hOf (b : Bn) (warm : Bool) : ∀ (p : List Int) (hs : List S73) (heat : Int), heatsF b warm heat p hs = hOf b.ga b.fa p (hs.map (roomF b warm)) heat
  | [], hs, heat => by rw [heatsF_nil, hOf_nil]
  | p :: ps, [], heat => rfl
  | p :: ps, h :: hs, heat => by
    show afterF b heat (roomF b warm h) p :: _ = _
    rw [heatsF_hOf b warm ps hs]
    rfl
theorem ho_loop (s li ga fa : Int) (l : List S73) (p r : List Int) (hp : p.length ≤ 1000) (hr : p.length ≤ r.length) :
    ∀ (d i : Nat) (heat : Int) (acc : List Int), i + d = p.length → acc.length ≤ i → Ev (fun k => senvyref02_HeatsOf.l0 k p r heat acc i s li ga fa l) (acc ++ hOf ga fa (p.drop i) (r.drop i) heat)
  | 0, i, heat, acc, h, ha => Ev.step (f := fun _ => some _) (fun k => by simp only [senvyref02_HeatsOf.l0]; rw [if_neg (by omega), show p.drop i = [] from List.drop_eq_nil_of_le (by omega), hOf_nil, List.append_nil]) (Ev.now _)
  | d + 1, i, heat, acc, h, ha => by
    obtain ⟨x, hx⟩ := at_lt p (i := i) (by omega)
    obtain ⟨y, hy⟩ := at_lt r (i := i) (by omega)
    have ih := ho_loop s li ga fa l p r hp hr d (i + 1) (if x = 1 then wrap64 (mx heat y + ga) else mx y (wrap64 (heat - fa))) (acc ++ [if x = 1 then wrap64 (mx heat y + ga) else mx y (wrap64 (heat - fa))]) (by omega) (by simp; omega)
    rw [drop_cons hx, drop_cons hy]
    simp only [hOf]
    rw [List.append_assoc, List.singleton_append] at ih
    refine Ev.step (fun k => ?_) ih
    simp only [senvyref02_HeatsOf.l0]
    rw [if_pos (by omega), if_pos (by omega), if_pos (by omega), rd_at hx, rd_at hy]
    have e : senvyref02_After.f s li ga fa l heat y x = some (if x = 1 then wrap64 (mx heat y + ga) else mx y (wrap64 (heat - fa))) := by
      unfold senvyref02_After.f
      split <;> rfl
    rw [e, Option.bind_some, if_pos (by omega), wrapN (by omega)]
theorem ho_ev (s li ga fa : Int) (l : List S73) (p r : List Int) (heat : Int) (i : Nat) (hi : i ≤ p.length) (hp : p.length ≤ 1000) (hr : p.length ≤ r.length) : Ev (fun k => senvyref02_HeatsOf.f k s li ga fa l p r heat i) (hOf ga fa (p.drop i) (r.drop i) heat) := by
  have := ho_loop s li ga fa l p r hp hr (p.length - i) i heat [] (by omega) (by simp)
  simpa [senvyref02_HeatsOf.f] using this
def rmF (warm : Bool) (h : S73) : Int := if warm = true then h.f0.f1 else h.f0.f0
theorem rm_loop (s li ga fa : Int) (l : List S73) (warm : Bool) (hl : l.length ≤ 1000) :
    ∀ (d i : Nat) (acc : List Int), i + d = l.length → acc.length ≤ i → Ev (fun k => senvyref02_Room.l0 k warm acc i s li ga fa l) (acc ++ (l.drop i).map (rmF warm))
  | 0, i, acc, h, ha => Ev.step (f := fun _ => some _) (fun k => by simp only [senvyref02_Room.l0]; rw [if_neg (by omega), List.drop_eq_nil_of_le (by omega), List.map_nil, List.append_nil]) (Ev.now _)
  | d + 1, i, acc, h, ha => by
    obtain ⟨x, hx⟩ := at_lt l (i := i) (by omega)
    have ih := rm_loop s li ga fa l warm hl d (i + 1) (acc ++ [rmF warm x]) (by omega) (by simp; omega)
    rw [drop_cons hx, List.map_cons]
    rw [List.append_assoc, List.singleton_append] at ih
    refine Ev.step (fun k => ?_) ih
    simp only [senvyref02_Room.l0]
    rw [if_pos (by omega), rd_hour l i hx, wrapN (by omega)]
    cases warm with
    | true => rw [if_pos rfl, if_pos (by omega), if_pos (by omega)]; rfl
    | false => rw [if_neg (by decide), if_pos (by omega), if_pos (by omega)]; rfl
theorem rm_ev (s li ga fa : Int) (l : List S73) (warm : Bool) (hl : l.length ≤ 1000) : Ev (fun k => senvyref02_Room.f k s li ga fa l warm) (l.map (rmF warm)) := by
  have := rm_loop s li ga fa l warm hl l.length 0 [] (by omega) (by simp)
  simpa [senvyref02_Room.f] using this
theorem gr_loop (x : List Int) (hl : x.length ≤ 1000) : ∀ (d i : Nat) (acc : Int), i + d = x.length → Ev (fun k => senvyref02_Greatest.l0 k x acc i) ((x.drop i).foldl mx acc)
  | 0, i, acc, h => Ev.step (f := fun _ => some _) (fun k => by simp only [senvyref02_Greatest.l0]; rw [if_neg (by omega), List.drop_eq_nil_of_le (by omega)]; rfl) (Ev.now _)
  | d + 1, i, acc, h => by
    obtain ⟨y, hy⟩ := at_lt x (i := i) (by omega)
    rw [drop_cons hy, List.foldl_cons]
    refine Ev.step (fun k => ?_) (gr_loop x hl d (i + 1) (mx acc y) (by omega))
    simp only [senvyref02_Greatest.l0]
    rw [if_pos (by omega), if_pos (by omega), rd_at hy, wrapN (by omega)]
theorem gr_ev (x : List Int) (hl : x.length ≤ 1000) : Ev (fun k => senvyref02_Greatest.f k x) (x.foldl mx 0) := by
  have := gr_loop x hl x.length 0 0 (by omega)
  simpa [senvyref02_Greatest.f] using this
theorem is_ev (s li ga fa : Int) (l : List S73) (p r : List Int) (hp : p.length ≤ 1000) (hr : p.length ≤ r.length) : Ev (fun k => senvyref02_Is.f k s li ga fa l p r) (decide ((hOf ga fa p r s).foldl mx 0 ≤ li)) := by
  have h1 := ho_ev s li ga fa l p r s 0 (by omega) hp hr
  rw [List.drop_zero, List.drop_zero] at h1
  have hlen := hOf_len ga fa p r s
  refine Ev.bind (f := fun k t => (senvyref02_Greatest.f k t).bind fun t => some (decide (t ≤ li))) h1 ?_
  exact Ev.bind (f := fun _ t => some (decide (t ≤ li))) (gr_ev _ (by omega)) (Ev.now _)
theorem gs_loop (s li ga fa : Int) (l : List S73) (p : List Int) (hp : p.length ≤ 1000) (hl : p.length ≤ l.length) :
    ∀ (d i : Nat) (acc : Int), i + d = p.length → Ev (fun k => senvyref02_Grinds.l0 k p acc i s li ga fa l) (grindsF (p.drop i) (l.drop i) acc)
  | 0, i, acc, h => Ev.step (f := fun _ => some _) (fun k => by simp only [senvyref02_Grinds.l0]; rw [if_neg (by omega), show p.drop i = [] from List.drop_eq_nil_of_le (by omega), grindsF_nil]) (Ev.now _)
  | d + 1, i, acc, h => by
    obtain ⟨x, hx⟩ := at_lt p (i := i) (by omega)
    obtain ⟨y, hy⟩ := at_lt l (i := i) (by omega)
    rw [drop_cons hx, drop_cons hy]
    simp only [grindsF]
    refine Ev.step (fun k => ?_) (gs_loop s li ga fa l p hp hl d (i + 1) (wrap64 (acc + wrap64 (y.f1 * x))) (by omega))
    simp only [senvyref02_Grinds.l0]
    rw [if_pos (by omega), if_pos (by omega), if_pos (by omega), rd_at hx, rd_hour l i hy, wrapN (by omega), Int.mul_comm]
theorem gs_ev (s li ga fa : Int) (l : List S73) (p : List Int) (hp : p.length ≤ 1000) (hl : p.length ≤ l.length) : Ev (fun k => senvyref02_Grinds.f k s li ga fa l p) (grindsF p l 0) := by
  have := gs_loop s li ga fa l p hp hl p.length 0 0 (by omega)
  simpa [senvyref02_Grinds.f] using this
theorem foldl_mx_le (z : Int) : ∀ (x : List Int) (a : Int), x.foldl mx a ≤ z ↔ a ≤ z ∧ ∀ y, y ∈ x → y ≤ z
  | [], a => by simp
  | y :: ys, a => by
    rw [List.foldl_cons, foldl_mx_le z ys]
    constructor
    · rintro ⟨h1, h2⟩
      have h3 := mx_le h1
      refine ⟨h3.1, fun u hu => ?_⟩
      rcases List.mem_cons.1 hu with rfl | hu
      · exact h3.2
      · exact h2 u hu
    · rintro ⟨h1, h2⟩
      exact ⟨mx_of h1 (h2 y List.mem_cons_self), fun u hu => h2 u (List.mem_cons_of_mem _ hu)⟩
theorem inR_iff (lo hi : Int) (l : List Int) : inR lo hi l = true ↔ ∀ y, y ∈ l → lo ≤ y ∧ y ≤ hi := by
  simp only [inR, Bool.not_eq_true', List.any_eq_false, Bool.or_eq_true, decide_eq_true_eq, not_or, Int.not_lt]
theorem hOf_nonneg {ga fa : Int} (hg : 0 ≤ ga) (hg4 : ga ≤ 40) (hf : 0 ≤ fa) (hf4 : fa ≤ 40) : ∀ (p r : List Int) (heat : Int) (B : Nat), 0 ≤ heat → heat ≤ B → 200 ≤ B → B + 40 * p.length ≤ 1000000 → (∀ y, y ∈ r → 0 ≤ y ∧ y ≤ 200) → ∀ z, z ∈ hOf ga fa p r heat → 0 ≤ z
  | [], r, heat, B, _, _, _, _, _, z, hz => by rw [hOf_nil] at hz; cases hz
  | q :: ps, [], heat, B, _, _, _, _, _, z, hz => by cases hz
  | q :: ps, y :: ys, heat, B, h0, h1, hB, hl, hr, z, hz => by
    have hy := hr y List.mem_cons_self
    have hlen : (q :: ps).length = ps.length + 1 := rfl
    have hc : 0 ≤ (if q = 1 then wrap64 (mx heat y + ga) else mx y (wrap64 (heat - fa))) ∧ (if q = 1 then wrap64 (mx heat y + ga) else mx y (wrap64 (heat - fa))) ≤ (B + 40 : Nat) := by
      have h2 : 0 ≤ mx heat y ∧ mx heat y ≤ B := by unfold mx; split <;> omega
      rw [wrap_id (x := mx heat y + ga) (by omega) (by omega), wrap_id (x := heat - fa) (by omega) (by omega)]
      split
      · omega
      · unfold mx; split <;> omega
    simp only [hOf] at hz
    rcases List.mem_cons.1 hz with rfl | hz
    · exact hc.1
    · exact hOf_nonneg hg hg4 hf hf4 ps ys _ (B + 40) hc.1 hc.2 (by omega) (by omega) (fun u hu => hr u (List.mem_cons_of_mem _ hu)) z hz
theorem roomF_eq {s li ga fa : Int} {l : List S73} (hG : Good s li ga fa l) (warm : Bool) : l.map (roomF ⟨s, li, ga, fa, l, 0⟩ warm) = l.map (rmF warm) := by
  refine List.map_congr_left (fun h hh => ?_)
  have := hG.hs h hh
  unfold roomF rmF
  cases warm with
  | true => simp only [if_true]; rw [Int.add_zero, wrap_id (by omega) (by omega)]
  | false => rfl
theorem rooms_in {s li ga fa : Int} {l : List S73} (hG : Good s li ga fa l) (warm : Bool) : ∀ y, y ∈ l.map (rmF warm) → 0 ≤ y ∧ y ≤ 200 := by
  intro y hy
  obtain ⟨h, hh, rfl⟩ := List.mem_map.1 hy
  have := hG.hs h hh
  unfold rmF
  split <;> omega
theorem heats_eq {s li ga fa : Int} {l : List S73} (hG : Good s li ga fa l) (warm : Bool) (p : List Int) : heatsF ⟨s, li, ga, fa, l, 0⟩ warm s p l = hOf ga fa p (l.map (rmF warm)) s := by
  rw [heatsF_hOf, roomF_eq hG]
theorem safe_eq {s li ga fa : Int} {l : List S73} (hG : Good s li ga fa l) (warm : Bool) (p : List Int) (hp : p.length ≤ 1000) : safeF ⟨s, li, ga, fa, l, 0⟩ warm p = decide ((hOf ga fa p (l.map (rmF warm)) s).foldl mx 0 ≤ li) := by
  have h0 := hG.s0
  have h1 := hG.sl
  have h2 := hG.l4
  rw [Bool.eq_iff_iff, decide_eq_true_eq, foldl_mx_le]
  unfold safeF
  rw [inR_iff]
  dsimp only
  rw [heats_eq hG]
  constructor
  · exact fun h => ⟨by omega, fun y hy => (h y hy).2⟩
  · exact fun h y hy => ⟨hOf_nonneg (by have := hG.g1; omega) hG.g4 (by have := hG.f1; omega) hG.f4 p _ s 200 h0 (by omega) (Nat.le_refl _) (by omega) (rooms_in hG warm) y hy, h.2 y hy⟩
end Go.Proofs.Ytpoopogojocolaa.P
namespace Go.Proofs.Ytpoopogojocolaa.P
open Go.RowKit Go.Proofs.YtpoopogojocolaaW.PrintWords Go.Proofs.YtpoopogojocolaaW.PrintLast Go.Proofs.YtpoopogojocolaaW.PrintMore
set_option linter.unusedVariables false
set_option linter.unusedSimpArgs false
def comb : Option (List Int × Int) → Option (List Int × Int) → Option (List Int × Int)
  | none, y => y
  | some x, none => some x
  | some x, some y => if x.2 < y.2 then some y else some x
theorem comb_none (x : Option (List Int × Int)) : comb x none = x := by cases x <;> rfl
theorem comb_assoc (x y z : Option (List Int × Int)) : comb (comb x y) z = comb x (comb y z) := by
  cases x with
  | none => rfl
  | some x =>
    cases y with
    | none => rfl
    | some y =>
      cases z with
      | none => rw [comb_none, comb_none]
      | some z =>
        simp only [comb]
        by_cases h1 : x.2 < y.2
        · rw [if_pos h1]
          by_cases h2 : y.2 < z.2
          · simp only [comb]; rw [if_pos h2]; simp only [comb]; rw [if_pos (by omega)]
          · simp only [comb]; rw [if_neg h2]; simp only [comb]; rw [if_pos h1]
        · rw [if_neg h1]
          by_cases h2 : y.2 < z.2
          · simp only [comb]; rw [if_pos h2]
          · simp only [comb]; rw [if_neg h2]; simp only [comb]; rw [if_neg h1, if_neg (by omega)]
def pickL (f : List Int → Option Int) (acc : Option (List Int × Int)) (ps : List (List Int)) : Option (List Int × Int) := ps.foldl (fun acc p => comb acc ((f p).map (fun v => (p, v)))) acc
theorem pickL_cons (f : List Int → Option Int) (acc : Option (List Int × Int)) (p : List Int) (ps : List (List Int)) : pickL f acc (p :: ps) = pickL f (comb acc ((f p).map (fun v => (p, v)))) ps := rfl
theorem pickL_acc (f : List Int → Option Int) : ∀ (ps : List (List Int)) (acc : Option (List Int × Int)), pickL f acc ps = comb acc (pickL f none ps)
  | [], acc => by rw [show pickL f none [] = none from rfl, comb_none]; rfl
  | p :: ps, acc => by
    rw [pickL_cons, pickL_acc f ps, pickL_cons, pickL_acc f ps (comb none _), comb_assoc]
    rfl
theorem pickL_append (f : List Int → Option Int) (A B : List (List Int)) : pickL f none (A ++ B) = comb (pickL f none A) (pickL f none B) := by
  unfold pickL
  rw [List.foldl_append]
  exact pickL_acc f B _
theorem pickL_map (f f' : List Int → Option Int) (g c : Int) (h : ∀ p, f (g :: p) = (f' p).map (· + c)) : ∀ L : List (List Int), pickL f none (L.map (g :: ·)) = (pickL f' none L).map (fun x => (g :: x.1, x.2 + c))
  | [] => rfl
  | p :: ps => by
    have e2 : pickL f' none (p :: ps) = comb ((f' p).map (fun v => (p, v))) (pickL f' none ps) := by rw [pickL_cons, pickL_acc f' ps (comb none _)]; rfl
    have e1 : pickL f none ((g :: p) :: ps.map (g :: ·)) = comb ((f (g :: p)).map (fun v => (g :: p, v))) (pickL f none (ps.map (g :: ·))) := by rw [pickL_cons, pickL_acc f _ (comb none _)]; rfl
    rw [List.map_cons, e1, e2, pickL_map f f' g c h ps, h p]
    cases f' p with
    | none => cases pickL f' none ps <;> rfl
    | some v =>
      cases pickL f' none ps with
      | none => rfl
      | some y =>
        simp only [comb, Option.map_some]
        by_cases h1 : v < y.2
        · rw [if_pos (by omega), if_pos h1]; rfl
        · rw [if_neg (by omega), if_neg h1]; rfl
theorem pickL_none (f : List Int → Option Int) : ∀ L : List (List Int), (∀ p, p ∈ L → f p = none) → pickL f none L = none
  | [], _ => rfl
  | p :: ps, h => by
    rw [pickL_cons, h p List.mem_cons_self]
    exact pickL_none f ps (fun q hq => h q (List.mem_cons_of_mem _ hq))
theorem pickL_congr {f f' : List Int → Option Int} : ∀ {L : List (List Int)}, (∀ p, p ∈ L → f p = f' p) → ∀ acc, pickL f acc L = pickL f' acc L
  | [], _, _ => rfl
  | p :: ps, h, acc => by
    rw [pickL_cons, pickL_cons, h p List.mem_cons_self]
    exact pickL_congr (fun q hq => h q (List.mem_cons_of_mem _ hq)) _
def plansL : Nat → List (List Int)
  | 0 => [[]]
  | n + 1 => (plansL n).map (0 :: ·) ++ (plansL n).map (1 :: ·)
theorem plansL_mem : ∀ (n : Nat) (p : List Int), p ∈ plansL n → p.length = n ∧ ∀ x, x ∈ p → x = 0 ∨ x = 1
  | 0, p, h => by rw [List.mem_singleton.1 h]; exact ⟨rfl, fun x hx => by cases hx⟩
  | n + 1, p, h => by
    have hc : ∀ (g : Int), (g = 0 ∨ g = 1) → p ∈ (plansL n).map (g :: ·) → p.length = n + 1 ∧ ∀ x, x ∈ p → x = 0 ∨ x = 1 := fun g hg hm => by
      obtain ⟨q, hq, rfl⟩ := List.mem_map.1 hm
      obtain ⟨h1, h2⟩ := plansL_mem n q hq
      refine ⟨by simp [h1], fun x hx => ?_⟩
      rcases List.mem_cons.1 hx with rfl | hx
      · exact hg
      · exact h2 x hx
    rcases List.mem_append.1 h with h | h
    · exact hc 0 (.inl rfl) h
    · exact hc 1 (.inr rfl) h
def valF (b : Bn) : List S73 → Int → List Int → Option Int
  | h :: hs, heat, p :: ps => if afterF b heat h.f0.f1 p ≤ b.li then (valF b hs (afterF b heat h.f0.f1 p) ps).map (· + p * h.f1) else none
  | _, _, _ => some 0
def bestP (b : Bn) (hs : List S73) (heat : Int) : Option (List Int × Int) := pickL (valF b hs heat) none (plansL hs.length)
theorem bestP_nil (b : Bn) (heat : Int) : bestP b [] heat = some ([], 0) := rfl
def liftP (b : Bn) (h : S73) (hs : List S73) (heat g : Int) : Option (List Int × Int) :=
  if afterF b heat h.f0.f1 g ≤ b.li then (bestP b hs (afterF b heat h.f0.f1 g)).map (fun x => (g :: x.1, x.2 + g * h.f1)) else none
theorem bestP_cons (b : Bn) (h : S73) (hs : List S73) (heat : Int) : bestP b (h :: hs) heat = comb (liftP b h hs heat 0) (liftP b h hs heat 1) := by
  have hg : ∀ g : Int, pickL (valF b (h :: hs) heat) none ((plansL hs.length).map (g :: ·)) = liftP b h hs heat g := fun g => by
    unfold liftP
    by_cases hc : afterF b heat h.f0.f1 g ≤ b.li
    · rw [if_pos hc]
      exact pickL_map _ _ g _ (fun p => by simp only [valF]; rw [if_pos hc]) _
    · rw [if_neg hc]
      refine pickL_none _ _ (fun p hp => ?_)
      obtain ⟨q, _, rfl⟩ := List.mem_map.1 hp
      simp only [valF]
      rw [if_neg hc]
  show pickL (valF b (h :: hs) heat) none (plansL (hs.length + 1)) = _
  simp only [plansL]
  rw [pickL_append, hg 0, hg 1]
theorem cell_two {b : Bn} (hG : GoodB b) {h : S73} (hh : h ∈ b.l) {heat : Int} (h0 : 0 ≤ heat) (h1 : heat ≤ b.li) (hr : h.f0.f1 ≤ b.li) (next : List Int) (hb : ∀ j : Nat, 0 ≤ next.getD j 0 ∧ next.getD j 0 ≤ 1200) :
    cellF b h next heat = (if afterF b heat h.f0.f1 1 ≤ b.li then mx (next.getD (afterF b heat h.f0.f1 0).toNat 0) (h.f1 + next.getD (afterF b heat h.f0.f1 1).toNat 0) else next.getD (afterF b heat h.f0.f1 0).toNat 0) := by
  have hhb := hG.hs h hh
  have hf0 := hG.f0
  have hf1 := hG.f1
  have hli := hG.li1
  have hfit : afterF b heat h.f0.f1 0 ≤ b.li := by
    unfold afterF
    rw [if_neg (by decide)]
    exact mx_of hr (by rw [wrap_id (by omega) (by omega)]; omega)
  have e0 := hb (afterF b heat h.f0.f1 0).toNat
  have e1 := hb (afterF b heat h.f0.f1 1).toNat
  have g0 : goF next (-1) (stepF b h heat 0) = next.getD (afterF b heat h.f0.f1 0).toNat 0 := by
    show mx (-1) (wrap64 (wrap64 (h.f1 * 0) + next.getD (afterF b heat h.f0.f1 0).toNat 0)) = _
    rw [Int.mul_zero, wrap_id (x := 0) (by omega) (by omega), Int.zero_add, wrap_id (by omega) (by omega)]
    unfold mx
    split <;> omega
  unfold cellF stepsF
  rw [List.filter_cons_of_pos (by exact decide_eq_true hfit)]
  by_cases hc : afterF b heat h.f0.f1 1 ≤ b.li
  · rw [if_pos hc, List.filter_cons_of_pos (by exact decide_eq_true hc), List.filter_nil, List.foldl_cons, g0, List.foldl_cons, List.foldl_nil]
    show mx _ (wrap64 (wrap64 (h.f1 * 1) + next.getD (afterF b heat h.f0.f1 1).toNat 0)) = _
    rw [Int.mul_one, wrap_id (x := h.f1) (by omega) (by omega), wrap_id (by omega) (by omega)]
  · rw [if_neg hc, List.filter_cons_of_neg (by simpa [stepF] using hc), List.filter_nil, List.foldl_cons, g0, List.foldl_nil]
theorem row_cell {b : Bn} (h : S73) (hs : List S73) {j : Nat} (hj : (j : Int) ≤ b.li) (hl : b.li ≤ 41) (hc : 0 ≤ cellF b h (rowAt b hs) j) : (rowAt b (h :: hs)).getD j 0 = cellF b h (rowAt b hs) j := by
  have : (rowAt b (h :: hs))[j]? = some (cellF b h (rowAt b hs) j) := by
    show (rowF b h (rowAt b hs))[j]? = _
    unfold rowF
    rw [List.getElem?_map, List.getElem?_range (by omega), Option.map_some, if_pos ⟨hj, hc⟩]
  exact getD_of this
theorem row_in {b : Bn} (hG : GoodB b) : ∀ (hs : List S73), (∀ h, h ∈ hs → h ∈ b.l) → (∀ h, h ∈ hs → h.f0.f1 ≤ b.li) → hs.length ≤ 12 → ∀ j : Nat, 0 ≤ (rowAt b hs).getD j 0 ∧ (rowAt b hs).getD j 0 ≤ 100 * hs.length
  | [], _, _, _, j => by
    have : (rowAt b []).getD j 0 = 0 := by
      show (List.replicate 42 (0 : Int)).getD j 0 = 0
      rw [List.getD_eq_getElem?_getD, List.getElem?_replicate]
      split <;> rfl
    rw [this]
    simp
  | h :: hs, hm, hr, hl, j => by
    have hl1 : hs.length + 1 ≤ 12 := hl
    have ih := row_in hG hs (fun x hx => hm x (List.mem_cons_of_mem _ hx)) (fun x hx => hr x (List.mem_cons_of_mem _ hx)) (by omega)
    have hh := hm h List.mem_cons_self
    have hhb := hG.hs h hh
    have hlen : ((h :: hs).length : Int) = hs.length + 1 := by simp
    by_cases hj : (j : Int) ≤ b.li
    · have hc := cell_two hG hh (heat := j) (by omega) hj (hr h List.mem_cons_self) (rowAt b hs) (fun i => ⟨(ih i).1, by have := (ih i).2; omega⟩)
      have e0 := ih (afterF b j h.f0.f1 0).toNat
      have e1 := ih (afterF b j h.f0.f1 1).toNat
      have hin : 0 ≤ cellF b h (rowAt b hs) j ∧ cellF b h (rowAt b hs) j ≤ 100 * (h :: hs).length := by
        rw [hc, hlen]
        split
        · unfold mx; split <;> omega
        · omega
      rw [row_cell h hs hj hG.li1 hin.1]
      exact hin
    · have : (rowAt b (h :: hs)).getD j 0 = 0 := by
        show (rowF b h (rowAt b hs)).getD j 0 = 0
        unfold rowF
        rw [List.getD_eq_getElem?_getD, List.getElem?_map]
        by_cases hj2 : j < 42
        · rw [List.getElem?_range hj2, Option.map_some, if_neg (fun h => hj h.1)]
          rfl
        · rw [List.getElem?_eq_none (by simp; omega)]
          rfl
      rw [this, hlen]
      omega
theorem after_in {b : Bn} (hG : GoodB b) {h : S73} (hh : h ∈ b.l) {heat : Int} (h0 : 0 ≤ heat) (h1 : heat ≤ b.li) (hr : h.f0.f1 ≤ b.li) : 0 ≤ afterF b heat h.f0.f1 0 ∧ afterF b heat h.f0.f1 0 ≤ b.li ∧ 0 ≤ afterF b heat h.f0.f1 1 := by
  have hhb := hG.hs h hh
  have hf0 := hG.f0
  have hf1 := hG.f1
  have hli := hG.li1
  refine ⟨after_nonneg hG h0 (by omega) hhb.1 hhb.2.1, ?_, after_nonneg hG h0 (by omega) hhb.1 hhb.2.1⟩
  unfold afterF
  rw [if_neg (by decide)]
  exact mx_of hr (by rw [wrap_id (by omega) (by omega)]; omega)
theorem best_greedy {b : Bn} (hG : GoodB b) (hr : ∀ h, h ∈ b.l → h.f0.f1 ≤ b.li) : ∀ (hs : List S73) (i : Nat), b.l.drop i = hs → ∀ heat : Int, 0 ≤ heat → heat ≤ b.li → bestP b hs heat = some (greedyF b hs i heat, (rowAt b hs).getD heat.toNat 0)
  | [], i, _, heat, h0, h1 => by
    rw [bestP_nil]
    have : (rowAt b []).getD heat.toNat 0 = 0 := by
      show (List.replicate 42 (0 : Int)).getD heat.toNat 0 = 0
      rw [List.getD_eq_getElem?_getD, List.getElem?_replicate]
      split <;> rfl
    rw [this]
    rfl
  | h :: hs, i, hd, heat, h0, h1 => by
    have hn := hG.n
    have hsub : ∀ x, x ∈ h :: hs → x ∈ b.l := fun x hx => List.mem_of_mem_drop (hd ▸ hx)
    have hh := hsub h List.mem_cons_self
    have hrh := hr h hh
    have hli := hG.li1
    have hlen : (h :: hs).length ≤ 12 := by rw [← hd, List.length_drop]; omega
    have hlen1 : hs.length + 1 ≤ 12 := hlen
    have hd1 : b.l.drop (i + 1) = hs := by
      have : b.l.drop (i + 1) = (b.l.drop i).drop 1 := by rw [List.drop_drop]
      rw [this, hd]
      rfl
    obtain ⟨a0, a1, a2⟩ := after_in hG hh h0 h1 hrh
    have hrow := row_in hG hs (fun x hx => hsub x (List.mem_cons_of_mem _ hx)) (fun x hx => hr x (hsub x (List.mem_cons_of_mem _ hx))) (by omega)
    have hrow' : ∀ j : Nat, 0 ≤ (rowAt b hs).getD j 0 ∧ (rowAt b hs).getD j 0 ≤ 1200 := fun j => ⟨(hrow j).1, by have := (hrow j).2; omega⟩
    have hc := cell_two hG hh h0 h1 hrh (rowAt b hs) hrow'
    have hhb := hG.hs h hh
    have e0 := hrow' (afterF b heat h.f0.f1 0).toNat
    have e1 := hrow' (afterF b heat h.f0.f1 1).toNat
    have hc0 : 0 ≤ cellF b h (rowAt b hs) heat := by
      rw [hc]
      split
      · unfold mx; split <;> omega
      · omega
    obtain ⟨n, rfl⟩ := Int.eq_ofNat_of_zero_le h0
    rw [show ((n : Int)).toNat = n from by simp] at *
    have hrc := row_cell h hs (j := n) h1 hli hc0
    rw [hrc, hc, bestP_cons]
    have ih0 := best_greedy hG hr hs (i + 1) hd1 _ a0 a1
    have l0 : liftP b h hs n 0 = some (0 :: greedyF b hs (i + 1) (afterF b n h.f0.f1 0), (rowAt b hs).getD (afterF b n h.f0.f1 0).toNat 0) := by
      unfold liftP
      rw [if_pos a1, ih0, Option.map_some]
      simp
    rw [l0]
    have htv : ∀ j : Nat, tvF b (i + 1) j = (rowAt b hs).getD j 0 := fun j => by unfold tvF; rw [hd1]
    have ep : wrap64 (h.f1 * 0) = 0 ∧ wrap64 (h.f1 * 1) = h.f1 := by rw [Int.mul_zero, Int.mul_one]; exact ⟨wrap_id (by omega) (by omega), wrap_id (by omega) (by omega)⟩
    by_cases hfit : afterF b n h.f0.f1 1 ≤ b.li
    · have ih1 := best_greedy hG hr hs (i + 1) hd1 _ a2 hfit
      have l1 : liftP b h hs n 1 = some (1 :: greedyF b hs (i + 1) (afterF b n h.f0.f1 1), (rowAt b hs).getD (afterF b n h.f0.f1 1).toNat 0 + h.f1) := by
        unfold liftP
        rw [if_pos hfit, ih1, Option.map_some]
        simp
      rw [l1, if_pos hfit]
      have hst : stepsF b h n b.li = [stepF b h n 0, stepF b h n 1] := by
        unfold stepsF
        rw [List.filter_cons_of_pos (by exact decide_eq_true a1), List.filter_cons_of_pos (by exact decide_eq_true hfit), List.filter_nil]
      have hbet : betterF (tvF b) i (stepF b h n 1) (stepF b h n 0) = decide ((rowAt b hs).getD (afterF b n h.f0.f1 0).toNat 0 < h.f1 + (rowAt b hs).getD (afterF b n h.f0.f1 1).toNat 0) := by
        show decide (wrap64 (wrap64 (h.f1 * 0) + tvF b (i + 1) (afterF b n h.f0.f1 0).toNat) < wrap64 (wrap64 (h.f1 * 1) + tvF b (i + 1) (afterF b n h.f0.f1 1).toNat)) = _
        rw [htv, htv, ep.1, ep.2, Int.zero_add, wrap_id (by omega) (by omega), wrap_id (by omega) (by omega)]
      have hgr : greedyF b (h :: hs) i n = if (rowAt b hs).getD (afterF b n h.f0.f1 0).toNat 0 < h.f1 + (rowAt b hs).getD (afterF b n h.f0.f1 1).toNat 0 then 1 :: greedyF b hs (i + 1) (afterF b n h.f0.f1 1) else 0 :: greedyF b hs (i + 1) (afterF b n h.f0.f1 0) := by
        by_cases hlt : (rowAt b hs).getD (afterF b n h.f0.f1 0).toNat 0 < h.f1 + (rowAt b hs).getD (afterF b n h.f0.f1 1).toNat 0
        · rw [if_pos hlt]
          simp only [greedyF, hst, bestF, hbet, decide_eq_true hlt, if_true]
          rfl
        · rw [if_neg hlt]
          simp only [greedyF, hst, bestF, hbet, decide_eq_false hlt, Bool.false_eq_true, if_false]
          rfl
      rw [hgr]
      simp only [comb]
      by_cases hlt : (rowAt b hs).getD (afterF b n h.f0.f1 0).toNat 0 < h.f1 + (rowAt b hs).getD (afterF b n h.f0.f1 1).toNat 0
      · rw [if_pos (by omega), if_pos hlt]
        congr 2
        unfold mx
        split <;> omega
      · rw [if_neg (by omega), if_neg hlt]
        congr 2
        unfold mx
        split <;> omega
    · have l1 : liftP b h hs n 1 = none := by unfold liftP; rw [if_neg hfit]
      have hst : stepsF b h n b.li = [stepF b h n 0] := by
        unfold stepsF
        rw [List.filter_cons_of_pos (by exact decide_eq_true a1), List.filter_cons_of_neg (by simpa [stepF] using hfit), List.filter_nil]
      rw [l1, if_neg hfit, comb_none]
      simp only [greedyF, hst, bestF]
      rfl
end Go.Proofs.Ytpoopogojocolaa.P
namespace Go.Proofs.Ytpoopogojocolaa.P
open Go Go.RowKit Go.Proofs.YtpoopogojocolaaW.PrintWords Go.Proofs.YtpoopogojocolaaW.PrintLast Go.Proofs.YtpoopogojocolaaW.PrintMore
set_option linter.unusedVariables false
set_option linter.unusedSimpArgs false
theorem own_cells {w : World} {base n c size : Nat} {e : TypeId} {A : Option Addr} {xs : List Value} (h : w.ownsRow base e size (.slice A n c) n xs) :
    (A = none → n = 0 ∧ c = 0) ∧ ∀ b, A = some b → ∀ j u, xs[j]? = some u → w.cell? (b.add j) = some u := by
  obtain ⟨h1, ⟨he, h0⟩ | ⟨g, cap, cur, he, hb, hh, hnc, hcm, hcs, ht⟩⟩ := h
  · injection he with ha hn hc
    exact ⟨fun _ => ⟨h0, hc⟩, fun b hb => by rw [ha] at hb; cases hb⟩
  · injection he with ha hn hc
    refine ⟨fun h => (by rw [ha] at h; cases h), fun b hb j u hj => ?_⟩
    rw [ha] at hb
    injection hb with hb
    subst hb
    rw [add_at, cell_of_row _ _ _ _ _ _ hh]
    rw [← ht, List.getElem?_take] at hj
    split at hj
    · rw [Nat.zero_add]; simpa using hj
    · cases hj
theorem own_some {w : World} {base n size : Nat} {e : TypeId} {v : Value} {xs : List Value} (h : w.ownsRow base e size v n xs) (hn : 0 < n) : ∃ b, v.ownBlock = some b ∧ base ≤ b := by
  rcases own_base' h with h1 | h1
  · obtain ⟨_, ⟨he, h0⟩ | ⟨g, cap, cur, he, _⟩⟩ := h
    · omega
    · rw [he] at h1; cases h1
  · exact h1
theorem grown_any {W W' : World} (h : W.grownBy W' none) (row : Option Nat) : W.grownBy W' row := ⟨h.os, h.tape, h.output, h.size, fun k hk _ => h.block k hk (fun e => by cases e)⟩
theorem run_slice_full {P : Program} (t e : TypeId) {i : TypeInfo} (ht : P.underlying t = some (.slice e)) (hi : P.info? e = some i) (A : Option Addr) (n c k : Nat) (hk : k ≤ c) (W : World) :
    (Instr.slice t (.slice A n c) none (some (.int .i64 (k : Int))) (some (.int .i64 (k : Int)))).run P W = .ok (.slice A k k) W := by
  have hel : P.elem t = e := by simp [Program.elem, ht]
  have hu : P.underlying t = some (.slice (P.elem t)) := by rw [hel]; exact ht
  have ha : (A.map fun x => x.add 0) = A := by cases A <;> simp [Addr.add]
  rw [run_slice_hm W t A n c hu .i64 .i64 k k (by omega) (by omega) (by omega), hel]
  simp [sizeOf, typeInfo, hi, sliced, Result.andThen, ha]
theorem below_of_grown {W W1 : World} (h : W.grownBy W1 none) : Below W.heap.size W W1 := ⟨h.os, h.tape, h.output, h.size, fun i hi => h.block i hi (fun e => by cases e)⟩
theorem run_append_full {P : Program} {α : Type} (d : Kd α) {W : World} (base : Nat) (t ty e : TypeId) (z : Value) (bytes : Nat)
    (ht : P.underlying t = some (.slice e)) (hinfo : (P.info? e).map (fun i => (i.zero, i.size, i.bytes)) = some (some z, d.sz, bytes)) (hz : z.cells.size = d.sz) (hs0 : 0 < d.sz) (hb0 : 0 < bytes)
    (A : Option Addr) (n c : Nat) (xs : List α) (p : α) (cs : List Value) (ok okp : Nat → Prop) (hp : d.M W base okp p cs) (hokp : ∀ k, okp k → ok k ∧ some k ≠ (Value.slice A n c).ownBlock) (hfresh : ∀ k, W.heap.size ≤ k → ok k)
    (HO : d.R e W base ok (.slice A n c) xs) (hbase : base ≤ W.heap.size) (hl : (xs.length + 1) * bytes ≤ 140737488355328) :
    ∃ v1 w1, (Builtin.append_ #[t, t] ty #[.slice A n n, .slice (some ⟨W.heap.size, 0, none⟩) 1 1]).run P (W.alloc (.cells cs.toArray e)) = .ok v1 w1 ∧ d.R e w1 base ok v1 (xs ++ [p]) ∧ W.grownBy w1 none := by
  obtain ⟨h0, inner, hown, hr⟩ := HO
  obtain ⟨i0, hi, hzz⟩ := Option.map_eq_some_iff.1 hinfo
  simp only [Prod.mk.injEq] at hzz
  obtain ⟨hz0, hz1, hz2⟩ := hzz
  obtain ⟨A', c', he⟩ := own_slice hown
  injection he with _ hn _
  subst hn
  have hlen : xs.length + 1 ≤ 140737488355328 := Nat.le_trans (Nat.le_mul_of_pos_right _ hb0) hl
  have hys : cs.length = d.sz := d.K_len (d.K_of_M hp)
  have h1 : ∀ u ∈ cs, u.oneCell' = true := d.K_one (d.K_of_M hp)
  have hnews : ∀ j u, cs[j]? = some u → (W.alloc (.cells cs.toArray e)).cell? ((⟨W.heap.size, 0, none⟩ : Addr).add j) = some u := by
    simpa using World.news_of_block (cs := cs.toArray) (t := e) (fr := (0, 0)) (heap_alloc_new W (.cells cs.toArray e))
  obtain ⟨hnil, hcells⟩ := own_cells (hown.alloc (.cells cs.toArray e))
  have hmain : ∃ v1 w1, (Builtin.append_ #[t, t] ty #[.slice A xs.length xs.length, .slice (some ⟨W.heap.size, 0, none⟩) 1 1]).run P (W.alloc (.cells cs.toArray e)) = .ok v1 w1 ∧ w1.ownsRow (W.alloc (.cells cs.toArray e)).heap.size e d.sz v1 (xs.length + 1) (inner ++ cs) ∧ (W.alloc (.cells cs.toArray e)).grownBy w1 none := by
    cases A with
    | some b =>
      exact run_append_arg_grows (P := P) (W.alloc (.cells cs.toArray e)) t ty e i0 z d.sz bytes ht hi hz0 hz1 hz2 hz hs0 b xs.length xs.length inner hown.1 (hcells b rfl) ⟨W.heap.size, 0, none⟩ 1 1 cs (by rw [hys]; simp) hnews (by omega) (by simp only [maxLen]; omega) hl
    | none =>
      obtain ⟨hx0, rfl⟩ := hnil rfl
      obtain rfl : xs = [] := List.eq_nil_of_length_eq_zero hx0
      obtain rfl : inner = [] := List.eq_nil_of_length_eq_zero (by simpa using hown.1)
      obtain ⟨v', w', hrun, r1, r2, _⟩ := run_append_own (P := P) (W.alloc (.cells cs.toArray e)) (W.alloc (.cells cs.toArray e)).heap.size t ty e i0 z d.sz bytes ht hi hz0 hz1 hz2 hz hs0 (.slice none 0 0) 0 [] (World.ownsRow_nil _ _ e d.sz) ⟨W.heap.size, 0, none⟩ 1 1 cs (by rw [hys]; simp) hnews h1 (by simp only [maxLen]; omega) (by simpa using hl) (Nat.le_refl _)
      exact ⟨v', w', hrun, by simpa using r1, r2⟩
  obtain ⟨v1, w1, hrun, hown1, hg⟩ := hmain
  obtain ⟨b, hb, hle⟩ := own_some hown1 (by omega)
  have hg1 := World.grownBy.trans (World.grownBy_alloc W _ _) hg
  have hle' : W.heap.size ≤ b := by simp at hle; omega
  exact ⟨v1, w1, hrun, Kd.R_appended h0 hr hp hokp hfresh (own_weaken hown1 (by simp; omega)) (grown_any hg1 _) (.inr ⟨b, hb, hle'⟩), hg1⟩
section
variable {P : Program} {ops : Array Oper} {rest : List Oper} {o : Oper} {a : Act} {Q : Exit → Act → World → Prop} {Kc : Act → World → Prop}
theorem R_append_full_step {α : Type} (d : Kd α) {W W' : World} (base : Nat) (hw : Region.wanted o (yielded ops a.tmps) = true) (s x : Operand) (t e : TypeId) (z : Value) (bytes : Nat)
    (ho : o.op = .call { callee := .builtin .append, args := #[s, x], argTypes := #[t, t] })
    (ht : P.underlying t = some (.slice e)) (hinfo : (P.info? e).map (fun i => (i.zero, i.size, i.bytes)) = some (some z, d.sz, bytes)) (hz : z.cells.size = d.sz) (hs0 : 0 < d.sz) (hb0 : 0 < bytes)
    (A : Option Addr) (n c : Nat) (xs : List α) (p : α) (cs : List Value) (ok okp : Nat → Prop) (hW : W' = W.alloc (.cells cs.toArray e)) (hs : a.eval s = .slice A n n) (hx : a.eval x = .slice (some ⟨W.heap.size, 0, none⟩) 1 1)
    (hp : d.M W base okp p cs) (hokp : ∀ k, okp k → ok k ∧ some k ≠ (Value.slice A n c).ownBlock) (hfresh : ∀ k, W.heap.size ≤ k → ok k)
    (HO : d.R e W base ok (.slice A n c) xs) (hbase : base ≤ W.heap.size) (hl : (xs.length + 1) * bytes ≤ 140737488355328)
    (h : ∀ v1 w1, d.R e w1 base ok v1 (xs ++ [p]) → W.grownBy w1 none → Kc (a.put o.dst v1) w1) :
    if Region.wanted o (yielded ops a.tmps) = true then Oper.wp P o a W' Kc Q else Kc (a.put o.dst undef) W' := by
  subst hW
  obtain ⟨v1, w1, hrun, h1, h2⟩ := run_append_full (P := P) d base t o.type e z bytes ht hinfo hz hs0 hb0 A n c xs p cs ok okp hp hokp hfresh HO hbase hl
  rw [if_pos hw]
  unfold Oper.wp execOp
  simp only [ho, resolve, invoke, builtin, Sem.run_bind, Sem.run_pure, Result.andThen_ok, List.map_toArray, List.map_cons, List.map_nil, hs, hx, hrun]
  exact h v1 w1 h1 h2
end
end Go.Proofs.Ytpoopogojocolaa.P
