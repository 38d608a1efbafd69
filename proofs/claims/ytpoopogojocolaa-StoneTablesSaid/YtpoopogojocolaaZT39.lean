/- Plain laws of the best plan, of how much can be ground, and how much one degree more would grind: the reference comes to the program's. -/
import Derived.Test.YtpoopogojocolaaZT37
import Derived.Test.YtpoopogojocolaaZT34
import Derived.Test.YtpoopogojocolaaZT35
import Derived.Test.YtpoopogojocolaaZT38
import Derived.Test.YtpoopogojocolaaZT22
namespace Go.Proofs.Ytpoopogojocolaa.P
open Go.RowKit Go.Proofs.YtpoopogojocolaaW.PrintWords Go.Proofs.YtpoopogojocolaaW.PrintLast Go.Proofs.YtpoopogojocolaaW.PrintMore
set_option linter.unusedVariables false
set_option linter.unusedSimpArgs false
theorem wraps63 (n : Int) (h0 : 0 ≤ n) (h1 : n < 2 ^ 63) : IntKind.i64.wrap n = n := by
  have e : (2 : Int) ^ 63 = 9223372036854775808 := by decide
  rw [e] at h1
  rw [IntWalk.i64_left]
  unfold wrap64
  omega
theorem bit_eq (x i : Nat) (hx : x < 8192) (hi : i ≤ 12) : Go.bits .and .i64 (shr .i64 (x : Int) (i : Int)) 1 = ((x / 2 ^ i % 2 : Nat) : Int) := by
  have h1 : shr .i64 (x : Int) (i : Int) = ((x / 2 ^ i : Nat) : Int) := by
    unfold shr
    rw [Int.toNat_natCast, Nat.min_eq_left (by show i ≤ 64; omega)]
    push_cast
    rfl
  have hle : x / 2 ^ i ≤ x := Nat.div_le_self _ _
  rw [h1]
  clear h1
  generalize x / 2 ^ i = y at *
  have e63 : (2 : Int) ^ 63 = 9223372036854775808 := by decide
  have h := bits_mask .i64 63 (by decide) wraps63 1 (by decide) (y : Int) (by omega) (by omega)
  have e : ((2 : Int) ^ 1 - 1) = 1 := by decide
  have e2 : ((2 : Int) ^ 1) = 2 := by decide
  rw [e, e2] at h
  rw [h]
  omega
def bitsL (x : Nat) : Nat → List Int
  | 0 => []
  | i + 1 => ((x / 2 ^ i % 2 : Nat) : Int) :: bitsL x i
theorem bitsL_len (x : Nat) : ∀ i, (bitsL x i).length = i
  | 0 => rfl
  | i + 1 => by simp [bitsL, bitsL_len x i]
theorem bits_loop (x : Nat) (hx : x < 8192) : ∀ (i : Nat) (out : List Int), i ≤ 12 → out.length ≤ 1000 - i → Ev (fun k => senvyref02_Bits.l0 k x out ((i : Int) - 1)) (out ++ bitsL x i)
  | 0, out, _, _ => Ev.step (f := fun _ => some _) (fun k => by simp only [senvyref02_Bits.l0]; rw [if_neg (by omega), show bitsL x 0 = [] from rfl, List.append_nil]) (Ev.now _)
  | i + 1, out, hi, ho => by
    have ih := bits_loop x hx i (out ++ [((x / 2 ^ i % 2 : Nat) : Int)]) (by omega) (by simp; omega)
    rw [List.append_assoc, List.singleton_append] at ih
    refine Ev.step (fun k => ?_) ih
    simp only [senvyref02_Bits.l0]
    rw [show ((i + 1 : Nat) : Int) - 1 = (i : Int) by omega, if_pos (by omega), if_pos (by omega), if_pos (by omega), bit_eq x i hx (by omega), wrap_id (by omega) (by omega)]
theorem bits_ev (x n : Nat) (hx : x < 8192) (hn : n ≤ 12) : Ev (fun k => senvyref02_Bits.f k n x) (bitsL x n) := by
  refine Ev.congr (f := fun k => senvyref02_Bits.l0 k x [] ((n : Int) - 1)) (fun k => by unfold senvyref02_Bits.f; rw [wrap_id (by omega) (by omega)]) ?_
  simpa using bits_loop x hx n [] hn (by simp)
theorem bitsL_add (x n : Nat) : ∀ m, m ≤ n → bitsL (2 ^ n + x) m = bitsL x m
  | 0, _ => rfl
  | i + 1, h => by
    simp only [bitsL]
    rw [bitsL_add x n i (by omega)]
    congr 2
    have e : 2 ^ n = 2 ^ i * (2 * 2 ^ (n - i - 1)) := by
      rw [← Nat.mul_assoc, ← Nat.pow_succ, ← Nat.pow_add]
      congr 1
      omega
    rw [e, Nat.mul_add_div (Nat.two_pow_pos i), Nat.mul_add_mod]
theorem plansL_bits : ∀ n : Nat, plansL n = (List.range (2 ^ n)).map (fun x => bitsL x n)
  | 0 => rfl
  | n + 1 => by
    have e : 2 ^ (n + 1) = 2 ^ n + 2 ^ n := by omega
    simp only [plansL]
    rw [e, List.range_add, List.map_append, plansL_bits n, List.map_map, List.map_map, List.map_map]
    congr 1
    · refine List.map_congr_left (fun x hx => ?_)
      have hx := List.mem_range.1 hx
      show (0 : Int) :: bitsL x n = ((x / 2 ^ n % 2 : Nat) : Int) :: bitsL x n
      rw [Nat.div_eq_of_lt hx]
      rfl
    · refine List.map_congr_left (fun x hx => ?_)
      have hx := List.mem_range.1 hx
      show (1 : Int) :: bitsL x n = (((2 ^ n + x) / 2 ^ n % 2 : Nat) : Int) :: bitsL (2 ^ n + x) n
      rw [bitsL_add x n n (Nat.le_refl _), Nat.add_div_left _ (Nat.two_pow_pos n), Nat.div_eq_of_lt hx]
      rfl
def outP : Option (List Int × Int) → List Int × Bool
  | none => ([], false)
  | some b => (b.1, true)
def fP (s li ga fa : Int) (l : List S73) (p : List Int) : Option Int := if (hOf ga fa p (l.map (rmF true)) s).foldl mx 0 ≤ li then some (grindsF p l 0) else none
theorem shl_eq {n : Nat} (h : n ≤ 12) : shl .i64 1 (n : Int) = ((2 ^ n : Nat) : Int) := by
  have hle : 2 ^ n ≤ 2 ^ 12 := Nat.pow_le_pow_right (by decide) h
  have e12 : 2 ^ 12 = 4096 := by decide
  unfold shl
  rw [Int.toNat_natCast, Nat.min_eq_left (by show n ≤ 64; omega), Int.one_mul, IntWalk.i64_left]
  have e : ((2 : Int) ^ n) = ((2 ^ n : Nat) : Int) := by push_cast; rfl
  rw [e]
  generalize 2 ^ n = m at *
  unfold wrap64
  omega
theorem po_loop (s li ga fa : Int) (l : List S73) (hl : l.length ≤ 12) :
    ∀ (d x : Nat) (acc : Option (List Int × Int)), x + d = 2 ^ l.length → (∀ b, acc = some b → b.2 = grindsF b.1 l 0 ∧ b.1.length ≤ l.length) →
      Ev (fun k => senvyref02_PlanOf.l0 k (l.map (rmF true)) (outP acc).1 (outP acc).2 x s li ga fa l) (outP (pickL (fP s li ga fa l) acc ((List.range' x d).map (fun x => bitsL x l.length))))
  | 0, x, acc, h, ha => by
    refine Ev.step (f := fun _ => some _) (fun k => ?_) (Ev.now _)
    simp only [senvyref02_PlanOf.l0]
    rw [shl_eq hl, if_neg (by omega)]
    rfl
  | d + 1, x, acc, h, ha => by
    have hle : 2 ^ l.length ≤ 2 ^ 12 := Nat.pow_le_pow_right (by decide) hl
    have e12 : 2 ^ 12 = 4096 := by decide
    have hwn : wrap64 ((x : Int) + 1) = ((x + 1 : Nat) : Int) := wrapN (by omega)
    have hpl := bitsL_len x l.length
    rw [List.range'_succ, List.map_cons, pickL_cons]
    refine Ev.step (f := fun k => (senvyref02_Bits.f k (l.length : Int) x).bind fun t => (senvyref02_Is.f k s li ga fa l t (l.map (rmF true))).bind fun u => if u = true then (if (outP acc).2 = true then ((senvyref02_Grinds.f k s li ga fa l t).bind fun a => (senvyref02_Grinds.f k s li ga fa l (outP acc).1).bind fun c => if a > c then senvyref02_PlanOf.l0 k (l.map (rmF true)) t true (wrap64 ((x : Int) + 1)) s li ga fa l else senvyref02_PlanOf.l0 k (l.map (rmF true)) (outP acc).1 (outP acc).2 (wrap64 ((x : Int) + 1)) s li ga fa l) else senvyref02_PlanOf.l0 k (l.map (rmF true)) t true (wrap64 ((x : Int) + 1)) s li ga fa l) else senvyref02_PlanOf.l0 k (l.map (rmF true)) (outP acc).1 (outP acc).2 (wrap64 ((x : Int) + 1)) s li ga fa l) (fun k => ?_) ?_
    · simp only [senvyref02_PlanOf.l0]
      rw [shl_eq hl, if_pos (by omega)]
    · rw [hwn]
      refine Ev.bind (f := fun k t => (senvyref02_Is.f k s li ga fa l t (l.map (rmF true))).bind fun u => if u = true then (if (outP acc).2 = true then ((senvyref02_Grinds.f k s li ga fa l t).bind fun a => (senvyref02_Grinds.f k s li ga fa l (outP acc).1).bind fun c => if a > c then senvyref02_PlanOf.l0 k (l.map (rmF true)) t true ((x + 1 : Nat) : Int) s li ga fa l else senvyref02_PlanOf.l0 k (l.map (rmF true)) (outP acc).1 (outP acc).2 ((x + 1 : Nat) : Int) s li ga fa l) else senvyref02_PlanOf.l0 k (l.map (rmF true)) t true ((x + 1 : Nat) : Int) s li ga fa l) else senvyref02_PlanOf.l0 k (l.map (rmF true)) (outP acc).1 (outP acc).2 ((x + 1 : Nat) : Int) s li ga fa l) (bits_ev x l.length (by omega) hl) ?_
      refine Ev.bind (f := fun k u => if u = true then (if (outP acc).2 = true then ((senvyref02_Grinds.f k s li ga fa l (bitsL x l.length)).bind fun a => (senvyref02_Grinds.f k s li ga fa l (outP acc).1).bind fun c => if a > c then senvyref02_PlanOf.l0 k (l.map (rmF true)) (bitsL x l.length) true ((x + 1 : Nat) : Int) s li ga fa l else senvyref02_PlanOf.l0 k (l.map (rmF true)) (outP acc).1 (outP acc).2 ((x + 1 : Nat) : Int) s li ga fa l) else senvyref02_PlanOf.l0 k (l.map (rmF true)) (bitsL x l.length) true ((x + 1 : Nat) : Int) s li ga fa l) else senvyref02_PlanOf.l0 k (l.map (rmF true)) (outP acc).1 (outP acc).2 ((x + 1 : Nat) : Int) s li ga fa l) (is_ev s li ga fa l (bitsL x l.length) (l.map (rmF true)) (by omega) (by simp; omega)) ?_
      by_cases hok : (hOf ga fa (bitsL x l.length) (l.map (rmF true)) s).foldl mx 0 ≤ li
      · have hf : fP s li ga fa l (bitsL x l.length) = some (grindsF (bitsL x l.length) l 0) := if_pos hok
        rw [hf, Option.map_some]
        refine Ev.congr (fun k => if_pos (decide_eq_true hok)) ?_
        cases acc with
        | none =>
          refine Ev.congr (fun k => if_neg (by decide)) ?_
          exact po_loop s li ga fa l hl d (x + 1) (some (bitsL x l.length, grindsF (bitsL x l.length) l 0)) (by omega) (fun b hb => by injection hb with hb; subst hb; exact ⟨rfl, by simp only; omega⟩)
        | some b =>
          obtain ⟨hv, hbl⟩ := ha b rfl
          refine Ev.congr (fun k => if_pos rfl) ?_
          refine Ev.bind (f := fun k a => (senvyref02_Grinds.f k s li ga fa l b.1).bind fun c => if a > c then senvyref02_PlanOf.l0 k (l.map (rmF true)) (bitsL x l.length) true ((x + 1 : Nat) : Int) s li ga fa l else senvyref02_PlanOf.l0 k (l.map (rmF true)) b.1 true ((x + 1 : Nat) : Int) s li ga fa l) (gs_ev s li ga fa l (bitsL x l.length) (by omega) (by omega)) ?_
          refine Ev.bind (f := fun k c => if grindsF (bitsL x l.length) l 0 > c then senvyref02_PlanOf.l0 k (l.map (rmF true)) (bitsL x l.length) true ((x + 1 : Nat) : Int) s li ga fa l else senvyref02_PlanOf.l0 k (l.map (rmF true)) b.1 true ((x + 1 : Nat) : Int) s li ga fa l) (gs_ev s li ga fa l b.1 (by omega) hbl) ?_
          simp only [comb]
          by_cases hgt : b.2 < grindsF (bitsL x l.length) l 0
          · rw [if_pos hgt]
            refine Ev.congr (fun k => if_pos (by omega)) ?_
            exact po_loop s li ga fa l hl d (x + 1) (some (bitsL x l.length, grindsF (bitsL x l.length) l 0)) (by omega) (fun b hb => by injection hb with hb; subst hb; exact ⟨rfl, by simp only; omega⟩)
          · rw [if_neg hgt]
            refine Ev.congr (fun k => if_neg (by omega)) ?_
            exact po_loop s li ga fa l hl d (x + 1) (some b) (by omega) ha
      · have hf : fP s li ga fa l (bitsL x l.length) = none := if_neg hok
        rw [hf, Option.map_none, comb_none]
        refine Ev.congr (fun k => if_neg (by rw [decide_eq_false hok]; decide)) ?_
        exact po_loop s li ga fa l hl d (x + 1) acc (by omega) ha
theorem po_all (s li ga fa : Int) (l : List S73) (hl : l.length ≤ 12) : Ev (fun k => senvyref02_PlanOf.f k s li ga fa l) (outP (pickL (fP s li ga fa l) none (plansL l.length))) := by
  refine Ev.bind (f := fun k t => senvyref02_PlanOf.l0 k t ([] : List Int) false 0 s li ga fa l) (rm_ev s li ga fa l true (by omega)) ?_
  have := po_loop s li ga fa l hl (2 ^ l.length) 0 none (by omega) (fun b hb => by cases hb)
  rw [plansL_bits, List.range_eq_range']
  exact this
def sumP : List Int → List S73 → Int
  | p :: ps, h :: hs => p * h.f1 + sumP ps hs
  | _, _ => 0
theorem grinds_sum : ∀ (p : List Int) (hs : List S73) (acc : Int), (∀ x, x ∈ p → x = 0 ∨ x = 1) → (∀ h, h ∈ hs → 0 ≤ h.f1 ∧ h.f1 ≤ 100) → 0 ≤ acc → acc + 100 * p.length ≤ 100000 → grindsF p hs acc = acc + sumP p hs
  | [], hs, acc, _, _, _, _ => by rw [grindsF_nil]; cases hs <;> simp [sumP]
  | q :: ps, [], acc, _, _, _, _ => by simp [grindsF, sumP]
  | q :: ps, h :: hs, acc, hp, hh, h0, h1 => by
    have hq := hp q List.mem_cons_self
    have hb := hh h List.mem_cons_self
    have hlen : ((q :: ps).length : Int) = ps.length + 1 := by simp
    rw [hlen] at h1
    have e : wrap64 (acc + wrap64 (h.f1 * q)) = acc + q * h.f1 := by
      rcases hq with rfl | rfl
      · rw [Int.mul_zero, Int.zero_mul, wrap_id (x := 0) (by omega) (by omega), wrap_id (by omega) (by omega)]
      · rw [Int.mul_one, Int.one_mul, wrap_id (x := h.f1) (by omega) (by omega), wrap_id (by omega) (by omega)]
    have e2 : 0 ≤ q * h.f1 ∧ q * h.f1 ≤ 100 := by
      rcases hq with rfl | rfl
      · rw [Int.zero_mul]; omega
      · rw [Int.one_mul]; omega
    simp only [grindsF, sumP]
    rw [e, grinds_sum ps hs _ (fun x hx => hp x (List.mem_cons_of_mem _ hx)) (fun x hx => hh x (List.mem_cons_of_mem _ hx)) (by omega) (by omega)]
    omega
theorem val_hOf {s li ga fa : Int} (l0 : List S73) : ∀ (hs : List S73) (p : List Int) (heat : Int), p.length = hs.length → valF ⟨s, li, ga, fa, l0, 0⟩ hs heat p = if ∀ z, z ∈ hOf ga fa p (hs.map (rmF true)) heat → z ≤ li then some (sumP p hs) else none
  | [], [], heat, _ => by rw [if_pos (by intro z hz; cases hz)]; rfl
  | [], q :: ps, heat, h => by simp at h
  | h :: hs, [], heat, hl => by simp at hl
  | h :: hs, q :: ps, heat, hl => by
    have ih := val_hOf (s := s) (li := li) (ga := ga) (fa := fa) l0 hs ps (afterF ⟨s, li, ga, fa, l0, 0⟩ heat h.f0.f1 q) (by simpa using hl)
    have e : hOf ga fa (q :: ps) ((h :: hs).map (rmF true)) heat = afterF ⟨s, li, ga, fa, l0, 0⟩ heat h.f0.f1 q :: hOf ga fa ps (hs.map (rmF true)) (afterF ⟨s, li, ga, fa, l0, 0⟩ heat h.f0.f1 q) := rfl
    rw [e]
    simp only [valF]
    by_cases hc : afterF ⟨s, li, ga, fa, l0, 0⟩ heat h.f0.f1 q ≤ li
    · rw [if_pos hc, ih]
      by_cases hr : ∀ z, z ∈ hOf ga fa ps (hs.map (rmF true)) (afterF ⟨s, li, ga, fa, l0, 0⟩ heat h.f0.f1 q) → z ≤ li
      · rw [if_pos hr, if_pos (fun z hz => by
          rcases List.mem_cons.1 hz with rfl | hz
          · exact hc
          · exact hr z hz), Option.map_some]
        simp only [sumP]
        congr 1
        omega
      · rw [if_neg hr, if_neg (fun h => hr (fun z hz => h z (List.mem_cons_of_mem _ hz)))]
        rfl
    · rw [if_neg hc, if_neg (fun h => hc (h _ List.mem_cons_self))]
theorem fP_val {s li ga fa : Int} {l : List S73} (hb : ∀ h, h ∈ l → 0 ≤ h.f1 ∧ h.f1 ≤ 100) (hl : l.length ≤ 12) (hli : 0 ≤ li) {p : List Int} (hp : p ∈ plansL l.length) : fP s li ga fa l p = valF ⟨s, li, ga, fa, l, 0⟩ l s p := by
  obtain ⟨h1, h2⟩ := plansL_mem _ _ hp
  rw [val_hOf l l p s h1]
  unfold fP
  have hg : grindsF p l 0 = sumP p l := by rw [grinds_sum p l 0 h2 hb (by omega) (by omega)]; omega
  by_cases hc : ∀ z, z ∈ hOf ga fa p (l.map (rmF true)) s → z ≤ li
  · rw [if_pos hc, if_pos ((foldl_mx_le li _ 0).2 ⟨hli, hc⟩), hg]
  · rw [if_neg hc, if_neg (fun h => hc ((foldl_mx_le li _ 0).1 h).2)]
theorem pick_some {f : List Int → Option Int} : ∀ {L : List (List Int)} {b : List Int × Int}, pickL f none L = some b → b.1 ∈ L ∧ f b.1 = some b.2
  | [], b, h => by cases h
  | p :: ps, b, h => by
    have e2 : pickL f none (p :: ps) = comb ((f p).map (fun v => (p, v))) (pickL f none ps) := by rw [pickL_cons, pickL_acc f ps (comb none _)]; rfl
    rw [e2] at h
    cases hf : f p with
    | none =>
      rw [hf] at h
      obtain ⟨h1, h2⟩ := pick_some (f := f) (L := ps) h
      exact ⟨List.mem_cons_of_mem _ h1, h2⟩
    | some v =>
      rw [hf] at h
      cases hr : pickL f none ps with
      | none =>
        rw [hr, comb_none] at h
        injection h with h
        subst h
        exact ⟨List.mem_cons_self, hf⟩
      | some y =>
        rw [hr, Option.map_some] at h
        simp only [comb] at h
        split at h
        · injection h with h
          subst h
          obtain ⟨h1, h2⟩ := pick_some (f := f) (L := ps) hr
          exact ⟨List.mem_cons_of_mem _ h1, h2⟩
        · injection h with h
          subst h
          exact ⟨List.mem_cons_self, hf⟩
theorem po_ev {s li ga fa : Int} {l : List S73} (hG : GoodB ⟨s, li, ga, fa, l, 0⟩) : Ev (fun k => senvyref02_PlanOf.f k s li ga fa l) (outP (bestP ⟨s, li, ga, fa, l, 0⟩ l s)) := by
  have := po_all s li ga fa l hG.n
  rw [pickL_congr (f' := valF ⟨s, li, ga, fa, l, 0⟩ l s) (fun p hp => fP_val (fun h hh => ⟨(hG.hs h hh).2.2.1, (hG.hs h hh).2.2.2⟩) hG.n hG.li0 hp)] at this
  exact this
theorem rest_safe {b : Bn} (hG : GoodB b) : ∀ (hs : List S73), (∀ h, h ∈ hs → h ∈ b.l) → ∀ (p : List Int) (heat heat' : Int), p.length = hs.length → 0 ≤ heat' → heat' ≤ heat → heat ≤ b.li → (valF b hs heat p).isSome = true → (valF b hs heat' (List.replicate hs.length 0)).isSome = true
  | [], _, p, heat, heat', _, _, _, _, _ => rfl
  | h :: hs, hm, [], heat, heat', hl, _, _, _, _ => by simp at hl
  | h :: hs, hm, q :: ps, heat, heat', hl, h0, h1, h2, hv => by
    have hh := hm h List.mem_cons_self
    have hhb := hG.hs h hh
    have hf0 := hG.f0
    have hf1 := hG.f1
    have hg0 := hG.g0
    have hg1 := hG.g1
    have hli := hG.li1
    have hlen : (h :: hs).length = hs.length + 1 := rfl
    have hmono : 0 ≤ afterF b heat' h.f0.f1 0 ∧ afterF b heat' h.f0.f1 0 ≤ afterF b heat h.f0.f1 q := by
      have hm1 : 0 ≤ mx heat h.f0.f1 ∧ mx heat h.f0.f1 ≤ 100 ∧ heat ≤ mx heat h.f0.f1 ∧ h.f0.f1 ≤ mx heat h.f0.f1 := by unfold mx; split <;> omega
      unfold afterF
      rw [if_neg (by decide), wrap_id (x := heat' - b.fa) (by omega) (by omega), wrap_id (x := mx heat h.f0.f1 + b.ga) (by omega) (by omega), wrap_id (x := heat - b.fa) (by omega) (by omega)]
      split
      · unfold mx; split <;> omega
      · unfold mx; split <;> split <;> omega
    rw [hlen, List.replicate_succ]
    simp only [valF] at hv ⊢
    by_cases hc : afterF b heat h.f0.f1 q ≤ b.li
    · rw [if_pos hc, Option.isSome_map] at hv
      rw [if_pos (by omega), Option.isSome_map]
      exact rest_safe hG hs (fun x hx => hm x (List.mem_cons_of_mem _ hx)) ps _ _ (by simpa using hl) hmono.1 hmono.2 hc hv
    · rw [if_neg hc] at hv
      cases hv
end Go.Proofs.Ytpoopogojocolaa.P
namespace Go.Proofs.Ytpoopogojocolaa.P
open Go.RowKit Go.Proofs.YtpoopogojocolaaW.PrintWords Go.Proofs.YtpoopogojocolaaW.PrintLast Go.Proofs.YtpoopogojocolaaW.PrintMore
set_option linter.unusedVariables false
set_option linter.unusedSimpArgs false
theorem open_nil (s li ga fa : Int) (l : List S73) : openF s li ga fa l [] = checkMillF s li ga fa l := by
  unfold openF
  split
  · rename_i h; rw [h]; rfl
  · rfl
theorem best_case {s li ga fa : Int} {l : List S73} (hG : GoodB ⟨s, li, ga, fa, l, 0⟩) (h0 : 0 ≤ s) (h1 : s ≤ li) (hr : ∀ h, h ∈ l → h.f0.f1 ≤ li) : bestP ⟨s, li, ga, fa, l, 0⟩ l s = some (greedyF ⟨s, li, ga, fa, l, 0⟩ l 0 s, tvF ⟨s, li, ga, fa, l, 0⟩ 0 s.toNat) :=
  best_greedy hG hr l 0 rfl s h0 h1
theorem best_grinds {s li ga fa : Int} {l : List S73} (hG : GoodB ⟨s, li, ga, fa, l, 0⟩) {p : List Int} {v : Int} (h : bestP ⟨s, li, ga, fa, l, 0⟩ l s = some (p, v)) : p.length = l.length ∧ grindsF p l 0 = v := by
  obtain ⟨h1, h2⟩ := pick_some h
  refine ⟨(plansL_mem _ _ h1).1, ?_⟩
  have h3 := fP_val (s := s) (li := li) (ga := ga) (fa := fa) (fun h hh => ⟨(hG.hs h hh).2.2.1, (hG.hs h hh).2.2.2⟩) hG.n hG.li0 h1
  simp only at h2 h3
  rw [h2] at h3
  unfold fP at h3
  split at h3
  · injection h3
  · cases h3
theorem plan_cases (s li ga fa : Int) (l : List S73) (hl : l.length ≤ 1000) :
    (plannedF s li ga fa l ≠ 0 ∧ Ev (fun k => senvyref02_Plan.f k s li ga fa l) ([], plannedF s li ga fa l)) ∨
    (plannedF s li ga fa l = 0 ∧ Good s li ga fa l ∧ (∀ h, h ∈ l → h.f0.f1 ≤ li) ∧ Ev (fun k => senvyref02_Plan.f k s li ga fa l) (greedyF ⟨s, li, ga, fa, l, 0⟩ l 0 s, 0) ∧ bestP ⟨s, li, ga, fa, l, 0⟩ l s = some (greedyF ⟨s, li, ga, fa, l, 0⟩ l 0 s, tvF ⟨s, li, ga, fa, l, 0⟩ 0 s.toNat)) := by
  have hcm := cm_ev s li ga fa l hl
  unfold plannedF
  rw [open_nil]
  by_cases h : checkMillF s li ga fa l = 0
  · rw [if_pos h]
    rw [h] at hcm
    have hG := good_of h
    have hB := good_bench hG
    have hpo := po_ev hB
    by_cases hs : safeF ⟨s, li, ga, fa, l, 0⟩ true (List.replicate l.length 0) = true
    · rw [if_pos hs]
      have hrooms : ∀ h, h ∈ l → h.f0.f1 ≤ li := rest_rooms (b := ⟨s, li, ga, fa, l, 0⟩) rfl l s (fun h hh => by have := hG.hs h hh; omega) hs
      have hbc := best_case hB hG.s0 hG.sl hrooms
      refine .inr ⟨rfl, hG, hrooms, ?_, hbc⟩
      rw [hbc] at hpo
      refine Ev.bind (f := fun k t => if t = 0 then _ else _) hcm ?_
      refine Ev.congr (fun k => if_pos rfl) ?_
      refine Ev.bind (f := fun k (bt : List Int × Bool) => if bt.2 = true then some (bt.1, 0) else some (([] : List Int), 13)) hpo ?_
      exact Ev.congr (f := fun _ => some _) (fun k => if_pos rfl) (Ev.now _)
    · rw [if_neg hs]
      have hnone : bestP ⟨s, li, ga, fa, l, 0⟩ l s = none := by
        refine pickL_none _ _ (fun p hp => ?_)
        cases hv : valF ⟨s, li, ga, fa, l, 0⟩ l s p with
        | none => rfl
        | some v =>
          refine absurd ?_ hs
          have h2 := rest_safe hB l (fun h hh => hh) p s s (plansL_mem _ _ hp).1 hG.s0 (Int.le_refl _) hG.sl (by rw [hv]; rfl)
          rw [val_hOf l l _ s (by simp)] at h2
          rw [safe_eq hG true _ (by simp; omega), decide_eq_true_eq, foldl_mx_le]
          split at h2
          · rename_i h3
            exact ⟨by have := hG.s0; have := hG.sl; omega, h3⟩
          · cases h2
      refine .inl ⟨by decide, ?_⟩
      rw [hnone] at hpo
      refine Ev.bind (f := fun k t => if t = 0 then _ else _) hcm ?_
      refine Ev.congr (fun k => if_pos rfl) ?_
      refine Ev.bind (f := fun k (bt : List Int × Bool) => if bt.2 = true then some (bt.1, 0) else some (([] : List Int), 13)) hpo ?_
      exact Ev.congr (f := fun _ => some _) (fun k => if_neg (by decide)) (Ev.now _)
  · rw [if_neg h]
    refine .inl ⟨h, ?_⟩
    refine Ev.bind (f := fun k t => if t = 0 then _ else _) hcm ?_
    refine Ev.congr (fun k => if_neg h) ?_
    exact Ev.bind (f := fun _ t => some (([] : List Int), t)) hcm (Ev.now _)
theorem most_ev (s li ga fa : Int) (l : List S73) (hl : l.length ≤ 1000) : ∃ r, stone_Most.f s li ga fa l = some r ∧ Ev (fun k => senvyref02_Most.f k s li ga fa l) r := by
  refine ⟨_, rfl, ?_⟩
  rcases plan_cases s li ga fa l hl with ⟨h, he⟩ | ⟨h, hG, hr, he, hb⟩
  · rw [if_neg h]
    refine Ev.bind (f := fun k (bt : List Int × Int) => if bt.2 = 0 then _ else _) he ?_
    exact Ev.congr (f := fun _ => some _) (fun k => if_neg h) (Ev.now _)
  · rw [if_pos h]
    have hg := best_grinds (good_bench hG) hb
    have hn := hG.n2
    refine Ev.bind (f := fun k (bt : List Int × Int) => if bt.2 = 0 then _ else _) he ?_
    refine Ev.congr (fun k => if_pos rfl) ?_
    refine Ev.bind (f := fun _ t => some (t, 0)) (gs_ev s li ga fa l _ (by simp only; omega) (by simp only; omega)) ?_
    rw [hg.2]
    exact Ev.now _
end Go.Proofs.Ytpoopogojocolaa.P
