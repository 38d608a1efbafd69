/- What the walks of this seat's program functions share: an append to a slice that is cut at its own length (xs[:n:n]): it makes a new row. No condition: it tells nothing of the program. -/
import Derived.Test.YtpoopogojocolaaZS36
import Derived.Test.YtpoopogojocolaaZS30
import Derived.Test.YtpoopogojocolaaZS31
import Derived.Test.YtpoopogojocolaaZS37
import Derived.Test.YtpoopogojocolaaZS38
import Derived.ArgAppend
import Derived.Test.YtpoopogojocolaaZS07
namespace Go.Proofs.Ytpoopogojocolaa.P
open Go.RowKit Go.Proofs.YtpoopogojocolaaW.PrintWords Go.Proofs.YtpoopogojocolaaW.PrintLast Go.Proofs.YtpoopogojocolaaW.PrintMore
set_option linter.unusedVariables false
set_option linter.unusedSimpArgs false
theorem checked_zero {s li ga fa : Int} {l : List S73} {p : List Int} (h : checkedF s li ga fa l p = 0) : Good s li ga fa l ∧ p.length = l.length ∧ safeF ⟨s, li, ga, fa, l, 0⟩ true p = true := by
  obtain ⟨h1, h2⟩ := checked_open h
  exact ⟨(open_zero h1).1, (open_zero h1).2, h2⟩
def upN (wm : Int) (next : List Int) : List Int := next.map (fun y => wrap64 (y + wrap64 (wm + 1)))
theorem sp_loop (s li ga fa : Int) (l : List S73) (p room : List Int) (low wm : Int) (r : Int × Int × Int) :
    ∀ (d i : Nat) (next : List Int), next.length ≤ 1000 → i + d = next.length → Ev (fun k => (senvyref02_Is.f k s li ga fa l p (next.take i ++ upN wm (next.drop i))).bind fun t => if t = true then senvyref02_Spares.l0 k p room low (wrap64 (wm + 1)) s li ga fa l else some (low, wm, 0)) r →
      Ev (fun k => senvyref02_Spares.l1 k p room low wm next i s li ga fa l) r
  | 0, i, next, hn, h, he => by
    refine Ev.step (fun k => ?_) he
    simp only [senvyref02_Spares.l1]
    rw [if_neg (by omega), List.drop_eq_nil_of_le (by omega), List.take_of_length_le (by omega)]
    simp [upN]
  | d + 1, i, next, hn, h, he => by
    obtain ⟨x, hx⟩ := at_lt next (i := i) (by omega)
    refine Ev.step (fun k => ?_) (sp_loop s li ga fa l p room low wm r d (i + 1) (next.set i (wrap64 (x + wrap64 (wm + 1)))) (by simp; omega) (by simp; omega) ?_)
    · simp only [senvyref02_Spares.l1]
      rw [if_pos (by omega), if_pos (by omega), rd_at hx, wrapN (by omega)]
      rfl
    · have e : (next.set i (wrap64 (x + wrap64 (wm + 1)))).take (i + 1) ++ upN wm ((next.set i (wrap64 (x + wrap64 (wm + 1)))).drop (i + 1)) = next.take i ++ upN wm (next.drop i) := by
        have h1 : (next.set i (wrap64 (x + wrap64 (wm + 1)))).take (i + 1) = next.take i ++ [wrap64 (x + wrap64 (wm + 1))] := by
          rw [take_snoc' (x := wrap64 (x + wrap64 (wm + 1))) (by rw [List.getElem?_set_self (by omega)]), List.take_set_of_le (by omega)]
        have h2 : (next.set i (wrap64 (x + wrap64 (wm + 1)))).drop (i + 1) = next.drop (i + 1) := List.drop_set_of_lt (by omega)
        rw [h1, h2, drop_cons hx]
        simp [upN]
      rw [e]
      exact he
theorem safe_more {s li ga fa : Int} {l : List S73} (hG : Good s li ga fa l) (wm : Nat) (hw : wm ≤ 41) (p : List Int) (hp : p.length ≤ 1000) : safeF ⟨s, li, ga, fa, l, (wm : Int) + 1⟩ true p = decide ((hOf ga fa p (upN wm (l.map (rmF true))) s).foldl mx 0 ≤ li) := by
  have h0 := hG.s0
  have h1 := hG.sl
  have h2 := hG.l4
  have hrm : l.map (roomF ⟨s, li, ga, fa, l, (wm : Int) + 1⟩ true) = upN wm (l.map (rmF true)) := by
    unfold upN
    rw [List.map_map]
    refine List.map_congr_left (fun h hh => ?_)
    show roomF _ true h = wrap64 (rmF true h + wrap64 ((wm : Int) + 1))
    rw [wrap_id (x := (wm : Int) + 1) (by omega) (by omega)]
    rfl
  have hin : ∀ y, y ∈ upN wm (l.map (rmF true)) → 0 ≤ y ∧ y ≤ 200 := by
    intro y hy
    unfold upN at hy
    rw [List.map_map] at hy
    obtain ⟨h, hh, rfl⟩ := List.mem_map.1 hy
    have := hG.hs h hh
    show 0 ≤ wrap64 (rmF true h + wrap64 ((wm : Int) + 1)) ∧ wrap64 (rmF true h + wrap64 ((wm : Int) + 1)) ≤ 200
    have e : rmF true h = h.f0.f1 := rfl
    rw [e, wrap_id (x := (wm : Int) + 1) (by omega) (by omega), wrap_id (by omega) (by omega)]
    omega
  rw [Bool.eq_iff_iff, decide_eq_true_eq, foldl_mx_le]
  unfold safeF
  rw [inR_iff]
  dsimp only
  rw [heatsF_hOf, hrm]
  constructor
  · exact fun h => ⟨by omega, fun y hy => (h y hy).2⟩
  · exact fun h y hy => ⟨hOf_nonneg (by have := hG.g1; omega) hG.g4 (by have := hG.f1; omega) hG.f4 p _ s 200 h0 (by omega) (Nat.le_refl _) (by omega) hin y hy, h.2 y hy⟩
theorem warm_ev {s li ga fa : Int} {l : List S73} (hG : Good s li ga fa l) (p : List Int) (hp : p.length = l.length) (low : Int) :
    ∀ (f n : Nat), n ≤ 40 → 41 ≤ n + f → Ev (fun k => senvyref02_Spares.l0 k p (l.map (rmF true)) low n s li ga fa l) (low, warmF ⟨s, li, ga, fa, l, 0⟩ p f n, 0)
  | 0, n, h0, h1 => by omega
  | f + 1, n, h0, h1 => by
    have hn := hG.n2
    refine Ev.step (f := fun k => senvyref02_Spares.l1 k p (l.map (rmF true)) low n (l.map (rmF true)) ((0 : Nat) : Int) s li ga fa l) (fun k => ?_) ?_
    · simp only [senvyref02_Spares.l0, Option.bind_some]
      rw [if_pos (by simp; omega), List.nil_append]
      rfl
    · refine sp_loop s li ga fa l p _ low n _ (l.map (rmF true)).length 0 (l.map (rmF true)) (by simp; omega) (by omega) ?_
      rw [List.take_zero, List.drop_zero, List.nil_append]
      have hi := is_ev s li ga fa l p (upN n (l.map (rmF true))) (by omega) (by simp [upN]; omega)
      rw [← safe_more hG n (by omega) p (by omega)] at hi
      refine Ev.bind (f := fun k t => if t = true then senvyref02_Spares.l0 k p (l.map (rmF true)) low (wrap64 ((n : Int) + 1)) s li ga fa l else some (low, (n : Int), 0)) hi ?_
      unfold warmF
      cases hb : safeF ⟨s, li, ga, fa, l, (n : Int) + 1⟩ true p with
      | true =>
        rw [if_pos rfl]
        have hle := warm_bound (m := (n : Int) + 1) hG hp (by omega) (by omega) hb
        refine Ev.congr (f := fun k => senvyref02_Spares.l0 k p (l.map (rmF true)) low ((n + 1 : Nat) : Int) s li ga fa l) (fun k => by rw [if_pos rfl, wrapN (by omega)]) ?_
        exact warm_ev hG p hp low f (n + 1) (by omega) (by omega)
      | false =>
        rw [if_neg (by decide)]
        exact Ev.congr (f := fun _ => some (low, (n : Int), 0)) (fun k => by rw [if_neg (by decide)]) (Ev.now _)
theorem maxL_eq {x : List Int} (h : ∀ y, y ∈ x → 0 ≤ y) (hx : x ≠ []) : maxL x = x.foldl mx 0 := by
  cases x with
  | nil => exact absurd rfl hx
  | cons a xs =>
    have h0 := h a List.mem_cons_self
    show xs.foldl mx a = xs.foldl mx (mx 0 a)
    rw [show mx 0 a = a from by unfold mx; split <;> omega]
theorem hOf_ne {ga fa : Int} {p r : List Int} {heat : Int} (hp : 0 < p.length) (hr : p.length ≤ r.length) : hOf ga fa p r heat ≠ [] := by
  cases p with
  | nil => simp at hp
  | cons q ps =>
    cases r with
    | nil => simp at hr
    | cons y ys => simp [hOf]
theorem spares_ev (s li ga fa : Int) (l : List S73) (p : List Int) (hl : l.length ≤ 1000) (hp : p.length ≤ 1000) : ∃ r, stone_Spares.f s li ga fa l p = some r ∧ Ev (fun k => senvyref02_Spares.f k s li ga fa l p) r := by
  refine ⟨_, rfl, ?_⟩
  obtain ⟨r, hr, he⟩ := plan_ev s li ga fa l p hl hp
  injection hr with hr
  subst hr
  by_cases h : checkedF s li ga fa l p = 0
  · rw [if_pos h] at he ⊢
    obtain ⟨hG, hlen, hsafe⟩ := checked_zero h
    have hn := hG.n1
    refine Ev.bind (f := fun k (bt : Int × Int) => if bt.2 = 0 then _ else _) he ?_
    refine Ev.congr (fun k => if_pos rfl) ?_
    refine Ev.bind (f := fun k t => (senvyref02_HeatsOf.f k s li ga fa l p t s 0).bind fun t2 => (senvyref02_Greatest.f k t2).bind fun t3 => senvyref02_Spares.l0 k p t (wrap64 (li - t3)) 0 s li ga fa l) (rm_ev s li ga fa l true hl) ?_
    have h1 := ho_ev s li ga fa l p (l.map (rmF true)) s 0 (by omega) hp (by simp; omega)
    rw [List.drop_zero, List.drop_zero] at h1
    refine Ev.bind (f := fun k t2 => (senvyref02_Greatest.f k t2).bind fun t3 => senvyref02_Spares.l0 k p (l.map (rmF true)) (wrap64 (li - t3)) 0 s li ga fa l) h1 ?_
    refine Ev.bind (f := fun k t3 => senvyref02_Spares.l0 k p (l.map (rmF true)) (wrap64 (li - t3)) 0 s li ga fa l) (gr_ev _ (Nat.le_trans (hOf_len _ _ _ _ _) hp)) ?_
    rw [heats_eq hG, maxL_eq (hOf_nonneg (by have := hG.g1; omega) hG.g4 (by have := hG.f1; omega) hG.f4 p _ s 200 hG.s0 (by have := hG.sl; have := hG.l4; omega) (Nat.le_refl _) (by omega) (rooms_in hG true)) (hOf_ne (by omega) (by simp; omega))]
    exact warm_ev hG p hlen _ 60 0 (by omega) (by omega)
  · rw [if_neg h] at he ⊢
    refine Ev.bind (f := fun k (bt : Int × Int) => if bt.2 = 0 then _ else _) he ?_
    exact Ev.congr (f := fun _ => some _) (fun k => if_neg h) (Ev.now _)
def okH (li ga fa : Int) (p r : List Int) (heat : Int) : Prop := ∀ z, z ∈ hOf ga fa p r heat → z ≤ li
theorem late_iff {li ga fa : Int} (h4 : li ≤ 40) (hg : 1 ≤ ga) (hg4 : ga ≤ 40) (hf : 1 ≤ fa) (hf4 : fa ≤ 40) : ∀ (p r : List Int) (h0 : Int), p.length ≤ r.length → (∀ y, y ∈ r → 0 ≤ y ∧ y ≤ 200) → 0 ≤ h0 → h0 ≤ li → okH li ga fa p r h0 →
    0 ≤ lateF ga fa li p ∧ lateF ga fa li p ≤ li ∧ ∀ heat, 0 ≤ heat → heat ≤ li → (okH li ga fa p r heat ↔ heat ≤ lateF ga fa li p)
  | [], r, h0, _, _, a, b, _ => by
    refine ⟨by show 0 ≤ li; omega, Int.le_refl _, fun heat _ hb => ?_⟩
    constructor
    · exact fun _ => hb
    · intro _ z hz
      rw [hOf_nil] at hz
      cases hz
  | q :: ps, [], h0, hl, _, _, _, _ => by simp at hl
  | q :: ps, y :: ys, h0, hl, hr, a, b, hok => by
    have hy := hr y List.mem_cons_self
    have step : ∀ heat, okH li ga fa (q :: ps) (y :: ys) heat ↔ (if q = 1 then wrap64 (mx heat y + ga) else mx y (wrap64 (heat - fa))) ≤ li ∧ okH li ga fa ps ys (if q = 1 then wrap64 (mx heat y + ga) else mx y (wrap64 (heat - fa))) := fun heat => by
      constructor
      · exact fun h => ⟨h _ (by simp only [hOf]; exact List.mem_cons_self), fun z hz => h z (by simp only [hOf]; exact List.mem_cons_of_mem _ hz)⟩
      · rintro ⟨h1, h2⟩ z hz
        simp only [hOf] at hz
        rcases List.mem_cons.1 hz with rfl | hz
        · exact h1
        · exact h2 z hz
    have val : ∀ heat, 0 ≤ heat → heat ≤ li → (if q = 1 then wrap64 (mx heat y + ga) else mx y (wrap64 (heat - fa))) = (if q = 1 then mx heat y + ga else mx y (heat - fa)) ∧ 0 ≤ (if q = 1 then mx heat y + ga else mx y (heat - fa)) := fun heat ha hb => by
      have hm : 0 ≤ mx heat y ∧ mx heat y ≤ 200 := by unfold mx; split <;> omega
      rw [wrap_id (x := mx heat y + ga) (by omega) (by omega), wrap_id (x := heat - fa) (by omega) (by omega)]
      refine ⟨rfl, ?_⟩
      split
      · omega
      · unfold mx; split <;> omega
    have h1 := (step h0).1 hok
    rw [(val h0 a b).1] at h1
    obtain ⟨l0, l1, hiff⟩ := late_iff h4 hg hg4 hf hf4 ps ys _ (by simpa using hl) (fun u hu => hr u (List.mem_cons_of_mem _ hu)) (val h0 a b).2 h1.1 h1.2
    have h2 := (hiff _ (val h0 a b).2 h1.1).1 h1.2
    have hall : ∀ heat, 0 ≤ heat → heat ≤ li → (okH li ga fa (q :: ps) (y :: ys) heat ↔ (if q = 1 then mx heat y + ga else mx y (heat - fa)) ≤ lateF ga fa li ps) := fun heat ha hb => by
      rw [step heat, (val heat ha hb).1]
      constructor
      · exact fun h => (hiff _ (val heat ha hb).2 h.1).1 h.2
      · exact fun h => ⟨by omega, (hiff _ (val heat ha hb).2 (by omega)).2 h⟩
    by_cases hq : q = 1
    · simp only [hq, if_true] at h2 hall
      have hm := mx_le (show mx h0 y ≤ lateF ga fa li ps - ga by omega)
      have e : lateF ga fa li (1 :: ps) = lateF ga fa li ps - ga := by
        show (if (1 : Int) = 1 then wrap64 (lateF ga fa li ps - ga) else _) = _
        rw [if_pos rfl, wrap_id (by omega) (by omega)]
      rw [hq, e]
      refine ⟨by omega, by omega, fun heat ha hb => ?_⟩
      rw [hall heat ha hb]
      constructor
      · intro h
        have := mx_le (show mx heat y ≤ lateF ga fa li ps - ga by omega)
        exact this.1
      · intro h
        have := mx_of h hm.2
        omega
    · simp only [hq, if_false] at h2 hall
      have hm := mx_le h2
      have e : lateF ga fa li (q :: ps) = mn li (lateF ga fa li ps + fa) := by
        show (if q = 1 then _ else mn li (wrap64 (lateF ga fa li ps + fa))) = _
        rw [if_neg hq, wrap_id (by omega) (by omega)]
      rw [e]
      have hmn : mn li (lateF ga fa li ps + fa) ≤ li ∧ mn li (lateF ga fa li ps + fa) ≤ lateF ga fa li ps + fa ∧ 0 ≤ mn li (lateF ga fa li ps + fa) ∧ ∀ z, z ≤ li → z ≤ lateF ga fa li ps + fa → z ≤ mn li (lateF ga fa li ps + fa) := by
        unfold mn
        split
        · exact ⟨by omega, by omega, by omega, fun z h1 h2 => by omega⟩
        · exact ⟨by omega, by omega, by omega, fun z h1 h2 => by omega⟩
      refine ⟨hmn.2.2.1, hmn.1, fun heat ha hb => ?_⟩
      rw [hall heat ha hb]
      constructor
      · intro h
        have := mx_le h
        exact hmn.2.2.2 heat hb (by omega)
      · intro h
        exact mx_of hm.1 (by omega)
theorem suffix_ok {li ga fa : Int} (h4 : li ≤ 40) (hg : 1 ≤ ga) (hg4 : ga ≤ 40) (hf : 1 ≤ fa) (hf4 : fa ≤ 40) : ∀ (i : Nat) (p r : List Int) (h0 : Int), p.length ≤ r.length → (∀ y, y ∈ r → 0 ≤ y ∧ y ≤ 200) → 0 ≤ h0 → h0 ≤ li → okH li ga fa p r h0 → ∃ h, 0 ≤ h ∧ h ≤ li ∧ okH li ga fa (p.drop i) (r.drop i) h
  | 0, p, r, h0, _, _, a, b, h => ⟨h0, a, b, h⟩
  | i + 1, [], r, h0, _, _, a, b, h => ⟨h0, a, b, fun z hz => by rw [List.drop_nil, hOf_nil] at hz; cases hz⟩
  | i + 1, q :: ps, [], h0, hl, _, _, _, _ => by simp at hl
  | i + 1, q :: ps, y :: ys, h0, hl, hr, a, b, h => by
    have hy := hr y List.mem_cons_self
    have hm : 0 ≤ mx h0 y ∧ mx h0 y ≤ 200 := by unfold mx; split <;> omega
    have hv : 0 ≤ (if q = 1 then wrap64 (mx h0 y + ga) else mx y (wrap64 (h0 - fa))) := by
      rw [wrap_id (x := mx h0 y + ga) (by omega) (by omega), wrap_id (x := h0 - fa) (by omega) (by omega)]
      split
      · omega
      · unfold mx; split <;> omega
    exact suffix_ok h4 hg hg4 hf hf4 i ps ys _ (by simpa using hl) (fun u hu => hr u (List.mem_cons_of_mem _ hu)) hv (h _ (by simp only [hOf]; exact List.mem_cons_self)) (fun z hz => h z (by simp only [hOf]; exact List.mem_cons_of_mem _ hz))
theorem la_inner {s li ga fa : Int} {l : List S73} (hG : Good s li ga fa l) (p acc : List Int) (i : Nat) (hi : i ≤ p.length) (hp : p.length = l.length) (ha : acc.length ≤ 1000) (L : Int) (hL0 : 0 ≤ L) (hL : L ≤ li) (hok : ∀ heat, 0 ≤ heat → heat ≤ li → (okH li ga fa (p.drop i) ((l.map (rmF true)).drop i) heat ↔ heat ≤ L)) (r : List Int × Int) :
    ∀ (d heat : Nat) (best : Int), (heat : Int) + d = li + 1 → Ev (fun k => senvyref02_Latest.l0 k p (acc ++ [if (heat : Int) ≤ L then L else best]) ((i + 1 : Nat) : Int) s li ga fa l) r → Ev (fun k => senvyref02_Latest.l1 k p acc i best heat s li ga fa l) r
  | 0, heat, best, h, he => by
    have h4 := hG.l4
    rw [if_neg (by omega)] at he
    refine Ev.step (fun k => ?_) he
    simp only [senvyref02_Latest.l1]
    rw [if_neg (by omega), if_pos (by omega), wrapN (by have := hG.n2; omega)]
  | d + 1, heat, best, h, he => by
    have h4 := hG.l4
    have hn := hG.n2
    have hs := hok heat (by omega) (by omega)
    have hgr : ((hOf ga fa (p.drop i) ((l.map (rmF true)).drop i) heat).foldl mx 0 ≤ li) ↔ (heat : Int) ≤ L := by
      rw [foldl_mx_le, ← hs]
      have := hG.s0
      have := hG.sl
      exact ⟨fun h => h.2, fun h => ⟨by omega, h⟩⟩
    have hwn : wrap64 ((heat : Int) + 1) = ((heat + 1 : Nat) : Int) := wrapN (by omega)
    refine Ev.step (f := fun k => (senvyref02_Room.f k s li ga fa l true).bind fun t => (senvyref02_HeatsOf.f k s li ga fa l p t heat i).bind fun t => (senvyref02_Greatest.f k t).bind fun t => if t ≤ li then senvyref02_Latest.l1 k p acc i heat (wrap64 ((heat : Int) + 1)) s li ga fa l else senvyref02_Latest.l1 k p acc i best (wrap64 ((heat : Int) + 1)) s li ga fa l) (fun k => ?_) ?_
    · simp only [senvyref02_Latest.l1]
      rw [if_pos (by omega)]
    · refine Ev.bind (f := fun k t => (senvyref02_HeatsOf.f k s li ga fa l p t heat i).bind fun t => (senvyref02_Greatest.f k t).bind fun t => if t ≤ li then senvyref02_Latest.l1 k p acc i heat (wrap64 ((heat : Int) + 1)) s li ga fa l else senvyref02_Latest.l1 k p acc i best (wrap64 ((heat : Int) + 1)) s li ga fa l) (rm_ev s li ga fa l true (by omega)) ?_
      refine Ev.bind (f := fun k t => (senvyref02_Greatest.f k t).bind fun t => if t ≤ li then senvyref02_Latest.l1 k p acc i heat (wrap64 ((heat : Int) + 1)) s li ga fa l else senvyref02_Latest.l1 k p acc i best (wrap64 ((heat : Int) + 1)) s li ga fa l) (ho_ev s li ga fa l p (l.map (rmF true)) heat i hi (by omega) (by simp; omega)) ?_
      refine Ev.bind (f := fun k t => if t ≤ li then senvyref02_Latest.l1 k p acc i heat (wrap64 ((heat : Int) + 1)) s li ga fa l else senvyref02_Latest.l1 k p acc i best (wrap64 ((heat : Int) + 1)) s li ga fa l) (gr_ev _ (Nat.le_trans (hOf_len _ _ _ _ _) (by rw [List.length_drop]; omega))) ?_
      by_cases hle : (heat : Int) ≤ L
      · refine Ev.congr (f := fun k => senvyref02_Latest.l1 k p acc i heat ((heat + 1 : Nat) : Int) s li ga fa l) (fun k => by rw [if_pos (hgr.2 hle), hwn]) ?_
        refine la_inner hG p acc i hi hp ha L hL0 hL hok r d (heat + 1) heat (by omega) ?_
        rw [if_pos hle] at he
        have e : (if ((heat + 1 : Nat) : Int) ≤ L then L else (heat : Int)) = L := by split <;> omega
        rw [e]
        exact he
      · refine Ev.congr (f := fun k => senvyref02_Latest.l1 k p acc i best ((heat + 1 : Nat) : Int) s li ga fa l) (fun k => by rw [if_neg (fun h => hle (hgr.1 h)), hwn]) ?_
        refine la_inner hG p acc i hi hp ha L hL0 hL hok r d (heat + 1) best (by omega) ?_
        rw [if_neg hle] at he
        rw [if_neg (by omega)]
        exact he
theorem latesF_drop (ga fa li : Int) : ∀ (p : List Int) (i : Nat), i < p.length → (latesF ga fa li p).drop i = lateF ga fa li (p.drop i) :: (latesF ga fa li p).drop (i + 1)
  | [], i, h => by simp at h
  | q :: ps, 0, h => rfl
  | q :: ps, i + 1, h => by
    simp only [latesF, List.drop_succ_cons]
    exact latesF_drop ga fa li ps i (by simpa using h)
theorem la_loop {s li ga fa : Int} {l : List S73} (hG : Good s li ga fa l) (p : List Int) (hp : p.length = l.length) (hsafe : okH li ga fa p (l.map (rmF true)) s) :
    ∀ (d i : Nat) (acc : List Int), i + d = p.length → acc.length ≤ i → Ev (fun k => senvyref02_Latest.l0 k p acc i s li ga fa l) (acc ++ (latesF ga fa li p).drop i, 0)
  | 0, i, acc, h, ha => Ev.step (f := fun _ => some _) (fun k => by simp only [senvyref02_Latest.l0]; rw [if_neg (by omega), List.drop_eq_nil_of_le (by rw [latesF_length]; omega), List.append_nil]) (Ev.now _)
  | d + 1, i, acc, h, ha => by
    have hn := hG.n2
    have h0 := hG.s0
    have h1 := hG.sl
    obtain ⟨hh, a, b, hokk⟩ := suffix_ok hG.l4 hG.g1 hG.g4 hG.f1 hG.f4 i p _ s (by simp; omega) (rooms_in hG true) h0 h1 hsafe
    obtain ⟨c1, c2, c3⟩ := late_iff hG.l4 hG.g1 hG.g4 hG.f1 hG.f4 (p.drop i) _ hh (by simp; omega) (fun y hy => rooms_in hG true y (List.mem_of_mem_drop hy)) a b hokk
    obtain ⟨n, hnl⟩ := Int.eq_ofNat_of_zero_le (show 0 ≤ li by omega)
    refine Ev.step (f := fun k => senvyref02_Latest.l1 k p acc i 0 ((0 : Nat) : Int) s li ga fa l) (fun k => by simp only [senvyref02_Latest.l0]; rw [if_pos (by omega)]; rfl) ?_
    refine la_inner hG p acc i (by omega) hp (by omega) _ c1 c2 c3 _ (n + 1) 0 0 (by omega) ?_
    rw [if_pos (by omega), latesF_drop ga fa li p i (by omega)]
    have := la_loop hG p hp hsafe d (i + 1) (acc ++ [lateF ga fa li (p.drop i)]) (by omega) (by simp; omega)
    rw [List.append_assoc, List.singleton_append] at this
    exact this
theorem latest_ev (s li ga fa : Int) (l : List S73) (p : List Int) (hl : l.length ≤ 1000) (hp : p.length ≤ 1000) : ∃ r, stone_Latest.f s li ga fa l p = some r ∧ Ev (fun k => senvyref02_Latest.f k s li ga fa l p) r := by
  refine ⟨_, rfl, ?_⟩
  obtain ⟨r, hr, he⟩ := plan_ev s li ga fa l p hl hp
  injection hr with hr
  subst hr
  by_cases h : checkedF s li ga fa l p = 0
  · rw [if_pos h] at he ⊢
    obtain ⟨hG, hlen, hsafe⟩ := checked_zero h
    refine Ev.bind (f := fun k (bt : Int × Int) => if bt.2 = 0 then _ else _) he ?_
    refine Ev.congr (fun k => if_pos rfl) ?_
    rw [safe_eq hG true p hp, decide_eq_true_eq, foldl_mx_le] at hsafe
    have := la_loop hG p hlen hsafe.2 p.length 0 [] (by omega) (by simp)
    simpa using this
  · rw [if_neg h] at he ⊢
    refine Ev.bind (f := fun k (bt : Int × Int) => if bt.2 = 0 then _ else _) he ?_
    exact Ev.congr (f := fun _ => some _) (fun k => if_neg h) (Ev.now _)
theorem latest_len {s li ga fa : Int} {l : List S73} {p x : List Int} {e : Int} (h : stone_Latest.f s li ga fa l p = some (x, e)) (hp : p.length ≤ 1000) : x.length ≤ 1000 := by
  unfold stone_Latest.f at h
  split at h
  · injection h with h
    injection h with h _
    rw [← h, latesF_length]
    exact hp
  · injection h with h
    injection h with h _
    rw [← h]
    simp
end Go.Proofs.Ytpoopogojocolaa.P
namespace Go.Proofs.Ytpoopogojocolaa.P
open Go Go.RowKit Go.Proofs.YtpoopogojocolaaW.PrintWords Go.Proofs.YtpoopogojocolaaW.PrintLast Go.Proofs.YtpoopogojocolaaW.PrintMore
set_option linter.unusedVariables false
set_option linter.unusedSimpArgs false
theorem own_cells {w : World} {base n c size : Nat} {e : TypeId} {A : Option Addr} {xs : List Value} (h : w.ownsRow base e size (.slice A n c) n xs) :
    (A = none → n = 0 ∧ c = 0) ∧ ∀ b, A = some b → ∀ j u, xs[j]? = some u → w.cell? (b.add j) = some u := by
  obtain ⟨h1, ⟨he, h0⟩ | ⟨g, cap, cur, he, hb, hh, hnc, hcm, hcs, ht⟩⟩ := h
  · injection he with ha hn hc
    exact ⟨fun _ => ⟨h0, hc⟩, fun b hb => by rw [ha] at hb; cases hb⟩
  · injection he with ha hn hc
    refine ⟨fun h => (by rw [ha] at h; cases h), fun b hb j u hj => ?_⟩
    rw [ha] at hb
    injection hb with hb
    subst hb
    rw [add_at, cell_of_row _ _ _ _ _ _ hh]
    rw [← ht, List.getElem?_take] at hj
    split at hj
    · rw [Nat.zero_add]; simpa using hj
    · cases hj
theorem own_some {w : World} {base n size : Nat} {e : TypeId} {v : Value} {xs : List Value} (h : w.ownsRow base e size v n xs) (hn : 0 < n) : ∃ b, v.ownBlock = some b ∧ base ≤ b := by
  rcases own_base' h with h1 | h1
  · obtain ⟨_, ⟨he, h0⟩ | ⟨g, cap, cur, he, _⟩⟩ := h
    · omega
    · rw [he] at h1; cases h1
  · exact h1
theorem grown_any {W W' : World} (h : W.grownBy W' none) (row : Option Nat) : W.grownBy W' row := ⟨h.os, h.tape, h.output, h.size, fun k hk _ => h.block k hk (fun e => by cases e)⟩
theorem run_slice_full {P : Program} (t e : TypeId) {i : TypeInfo} (ht : P.underlying t = some (.slice e)) (hi : P.info? e = some i) (A : Option Addr) (n c k : Nat) (hk : k ≤ c) (W : World) :
    (Instr.slice t (.slice A n c) none (some (.int .i64 (k : Int))) (some (.int .i64 (k : Int)))).run P W = .ok (.slice A k k) W := by
  have hel : P.elem t = e := by simp [Program.elem, ht]
  have hu : P.underlying t = some (.slice (P.elem t)) := by rw [hel]; exact ht
  have ha : (A.map fun x => x.add 0) = A := by cases A <;> simp [Addr.add]
  rw [run_slice_hm W t A n c hu .i64 .i64 k k (by omega) (by omega) (by omega), hel]
  simp [sizeOf, typeInfo, hi, sliced, Result.andThen, ha]
theorem below_of_grown {W W1 : World} (h : W.grownBy W1 none) : Below W.heap.size W W1 := ⟨h.os, h.tape, h.output, h.size, fun i hi => h.block i hi (fun e => by cases e)⟩
theorem run_append_full {P : Program} {α : Type} (d : Kd α) {W : World} (base : Nat) (t ty e : TypeId) (z : Value) (bytes : Nat)
    (ht : P.underlying t = some (.slice e)) (hinfo : (P.info? e).map (fun i => (i.zero, i.size, i.bytes)) = some (some z, d.sz, bytes)) (hz : z.cells.size = d.sz) (hs0 : 0 < d.sz) (hb0 : 0 < bytes)
    (A : Option Addr) (n c : Nat) (xs : List α) (p : α) (cs : List Value) (ok okp : Nat → Prop) (hp : d.M W base okp p cs) (hokp : ∀ k, okp k → ok k ∧ some k ≠ (Value.slice A n c).ownBlock) (hfresh : ∀ k, W.heap.size ≤ k → ok k)
    (HO : d.R e W base ok (.slice A n c) xs) (hbase : base ≤ W.heap.size) (hl : (xs.length + 1) * bytes ≤ 140737488355328) :
    ∃ v1 w1, (Builtin.append_ #[t, t] ty #[.slice A n n, .slice (some ⟨W.heap.size, 0, none⟩) 1 1]).run P (W.alloc (.cells cs.toArray e)) = .ok v1 w1 ∧ d.R e w1 base ok v1 (xs ++ [p]) ∧ W.grownBy w1 none := by
  obtain ⟨h0, inner, hown, hr⟩ := HO
  obtain ⟨i0, hi, hzz⟩ := Option.map_eq_some_iff.1 hinfo
  simp only [Prod.mk.injEq] at hzz
  obtain ⟨hz0, hz1, hz2⟩ := hzz
  obtain ⟨A', c', he⟩ := own_slice hown
  injection he with _ hn _
  subst hn
  have hlen : xs.length + 1 ≤ 140737488355328 := Nat.le_trans (Nat.le_mul_of_pos_right _ hb0) hl
  have hys : cs.length = d.sz := d.K_len (d.K_of_M hp)
  have h1 : ∀ u ∈ cs, u.oneCell' = true := d.K_one (d.K_of_M hp)
  have hnews : ∀ j u, cs[j]? = some u → (W.alloc (.cells cs.toArray e)).cell? ((⟨W.heap.size, 0, none⟩ : Addr).add j) = some u := by
    simpa using World.news_of_block (cs := cs.toArray) (t := e) (fr := (0, 0)) (heap_alloc_new W (.cells cs.toArray e))
  obtain ⟨hnil, hcells⟩ := own_cells (hown.alloc (.cells cs.toArray e))
  have hmain : ∃ v1 w1, (Builtin.append_ #[t, t] ty #[.slice A xs.length xs.length, .slice (some ⟨W.heap.size, 0, none⟩) 1 1]).run P (W.alloc (.cells cs.toArray e)) = .ok v1 w1 ∧ w1.ownsRow (W.alloc (.cells cs.toArray e)).heap.size e d.sz v1 (xs.length + 1) (inner ++ cs) ∧ (W.alloc (.cells cs.toArray e)).grownBy w1 none := by
    cases A with
    | some b =>
      exact run_append_arg_grows (P := P) (W.alloc (.cells cs.toArray e)) t ty e i0 z d.sz bytes ht hi hz0 hz1 hz2 hz hs0 b xs.length xs.length inner hown.1 (hcells b rfl) ⟨W.heap.size, 0, none⟩ 1 1 cs (by rw [hys]; simp) hnews (by omega) (by simp only [maxLen]; omega) hl
    | none =>
      obtain ⟨hx0, rfl⟩ := hnil rfl
      obtain rfl : xs = [] := List.eq_nil_of_length_eq_zero hx0
      obtain rfl : inner = [] := List.eq_nil_of_length_eq_zero (by simpa using hown.1)
      obtain ⟨v', w', hrun, r1, r2, _⟩ := run_append_own (P := P) (W.alloc (.cells cs.toArray e)) (W.alloc (.cells cs.toArray e)).heap.size t ty e i0 z d.sz bytes ht hi hz0 hz1 hz2 hz hs0 (.slice none 0 0) 0 [] (World.ownsRow_nil _ _ e d.sz) ⟨W.heap.size, 0, none⟩ 1 1 cs (by rw [hys]; simp) hnews h1 (by simp only [maxLen]; omega) (by simpa using hl) (Nat.le_refl _)
      exact ⟨v', w', hrun, by simpa using r1, r2⟩
  obtain ⟨v1, w1, hrun, hown1, hg⟩ := hmain
  obtain ⟨b, hb, hle⟩ := own_some hown1 (by omega)
  have hg1 := World.grownBy.trans (World.grownBy_alloc W _ _) hg
  have hle' : W.heap.size ≤ b := by simp at hle; omega
  exact ⟨v1, w1, hrun, Kd.R_appended h0 hr hp hokp hfresh (own_weaken hown1 (by simp; omega)) (grown_any hg1 _) (.inr ⟨b, hb, hle'⟩), hg1⟩
section
variable {P : Program} {ops : Array Oper} {rest : List Oper} {o : Oper} {a : Act} {Q : Exit → Act → World → Prop} {Kc : Act → World → Prop}
theorem R_append_full_step {α : Type} (d : Kd α) {W W' : World} (base : Nat) (hw : Region.wanted o (yielded ops a.tmps) = true) (s x : Operand) (t e : TypeId) (z : Value) (bytes : Nat)
    (ho : o.op = .call { callee := .builtin .append, args := #[s, x], argTypes := #[t, t] })
    (ht : P.underlying t = some (.slice e)) (hinfo : (P.info? e).map (fun i => (i.zero, i.size, i.bytes)) = some (some z, d.sz, bytes)) (hz : z.cells.size = d.sz) (hs0 : 0 < d.sz) (hb0 : 0 < bytes)
    (A : Option Addr) (n c : Nat) (xs : List α) (p : α) (cs : List Value) (ok okp : Nat → Prop) (hW : W' = W.alloc (.cells cs.toArray e)) (hs : a.eval s = .slice A n n) (hx : a.eval x = .slice (some ⟨W.heap.size, 0, none⟩) 1 1)
    (hp : d.M W base okp p cs) (hokp : ∀ k, okp k → ok k ∧ some k ≠ (Value.slice A n c).ownBlock) (hfresh : ∀ k, W.heap.size ≤ k → ok k)
    (HO : d.R e W base ok (.slice A n c) xs) (hbase : base ≤ W.heap.size) (hl : (xs.length + 1) * bytes ≤ 140737488355328)
    (h : ∀ v1 w1, d.R e w1 base ok v1 (xs ++ [p]) → W.grownBy w1 none → Kc (a.put o.dst v1) w1) :
    if Region.wanted o (yielded ops a.tmps) = true then Oper.wp P o a W' Kc Q else Kc (a.put o.dst undef) W' := by
  subst hW
  obtain ⟨v1, w1, hrun, h1, h2⟩ := run_append_full (P := P) d base t o.type e z bytes ht hinfo hz hs0 hb0 A n c xs p cs ok okp hp hokp hfresh HO hbase hl
  rw [if_pos hw]
  unfold Oper.wp execOp
  simp only [ho, resolve, invoke, builtin, Sem.run_bind, Sem.run_pure, Result.andThen_ok, List.map_toArray, List.map_cons, List.map_nil, hs, hx, hrun]
  exact h v1 w1 h1 h2
end
end Go.Proofs.Ytpoopogojocolaa.P
