/- The contract of stone's open: the error of a mill and of plans, or a new bench of the mill. -/
import Derived.Test.YtpoopogojocolaaZT04
namespace Go.Proofs.Ytpoopogojocolaa.P
open Go.RowKit Go.Proofs.YtpoopogojocolaaW.PrintWords Go.Proofs.YtpoopogojocolaaW.PrintLast Go.Proofs.YtpoopogojocolaaW.PrintMore
attribute [local go_sem] max2_mx min2_mn max_two min_two
set_option linter.unusedVariables false
set_option linter.unusedSimpArgs false
structure Bn where
  s : Int
  li : Int
  ga : Int
  fa : Int
  l : List S73
  mo : Int
structure BenchAt (W : World) (g : Nat) (b : Bn) (A : Option Addr) (c : Nat) : Prop where
  blk : W.heap[g]? = some (.cells #[.int .i64 b.s, .int .i64 b.li, .int .i64 b.ga, .int .i64 b.fa, .slice A b.l.length c, .int .i64 b.mo] 97 (0, 0))
  cap : b.l.length ≤ c
  rd : Kd.C k73 W A b.l.length b.l
theorem BenchAt.below {W W' : World} {g : Nat} {b : Bn} {A : Option Addr} {c : Nat} (h : BenchAt W g b A c) (hb : Below W.heap.size W W') : BenchAt W' g b A c :=
  ⟨blk_below h.blk hb, h.cap, Kd.C_below h.rd hb⟩
def badN (n : Int) : Bool := decide (n < 0) || decide (1 < n)
theorem bad74 (n : Int) (w : World) : Calls Try.prog 74 #[.int .i64 n] w fun e w' => e = .returned (.bool (badN n)) ∧ Below w.heap.size w w' := by
  by_cases hx : n < 0
  · go_enter Try.func74, Try.ntmps74
    go_wp2
    go_ret
    have hx' : n < 0 := by omega
    exact ⟨by simp [badN, hx'], Below.refl _ _⟩
  · go_enter Try.func74, Try.ntmps74
    go_wp2
    go_ret
    have hx' : decide (n < 0) = false := by simp; omega
    exact ⟨by rw [badN, hx', Bool.false_or]; rfl, Below.refl _ _⟩
theorem bad_pred (w : World) : Pred Try.prog 74 #[] (Kd.int .i64) one badN w := fun W x cs hb hK => by
  obtain rfl : cs = [.int .i64 x] := hK
  exact bad74 x W
theorem bad_enters : ∀ args w, (callFunc 74 args).run Try.prog w = .ok (.enter 74 args) w := enters_of Try.func74 (by kernel_rfl) rfl
def planErrF (n : Nat) (p : List Int) : Int := if p.length ≠ n then 15 else if p.any badN = true then 3 else 0
def plansErrF (n : Nat) : List (List Int) → Int
  | [] => 0
  | p :: ps => if planErrF n p = 0 then plansErrF n ps else planErrF n p
def openF (s li ga fa : Int) (l : List S73) (ps : List (List Int)) : Int :=
  if checkMillF s li ga fa l = 0 then plansErrF l.length ps else checkMillF s li ga fa l
theorem plans_ok {n : Nat} : ∀ {ps : List (List Int)} (k : Nat) {p : List Int}, (∀ q, q ∈ ps.take k → planErrF n q = 0) → ps[k]? = some p → planErrF n p ≠ 0 → plansErrF n ps = planErrF n p
  | q :: ps, 0, p, h, hp, hn => by
    obtain rfl : q = p := by simpa using hp
    simp [plansErrF, hn]
  | q :: ps, k + 1, p, h, hp, hn => by
    have h0 : planErrF n q = 0 := h q (by simp)
    have := plans_ok (ps := ps) k (fun r hr => h r (by simp [hr])) (by simpa using hp) hn
    simp [plansErrF, h0, this]
theorem plans_all {n : Nat} : ∀ {ps : List (List Int)}, (∀ q, q ∈ ps → planErrF n q = 0) → plansErrF n ps = 0
  | [], _ => rfl
  | q :: ps, h => by
    have h0 : planErrF n q = 0 := h q (by simp)
    simp [plansErrF, h0, plans_all (ps := ps) (fun r hr => h r (by simp [hr]))]
set_option maxHeartbeats 4000000 in
set_option maxRecDepth 100000 in
theorem open43 (s li ga fa : Int) (A : Option Addr) (c : Nat) (l : List S73) (PA : Option Addr) (n pc : Nat) (ps : List (List Int)) (w : World)
    (hr : Kd.C k73 w A l.length l) (hc : l.length ≤ c) (hp : Kd.C (Kd.slice 3 (Kd.int .i64)) w PA n ps) (hpc : n ≤ pc) :
    Calls Try.prog 43 #[.agg #[.int .i64 s, .int .i64 li, .int .i64 ga, .int .i64 fa, .slice A l.length c], .slice PA n pc] w fun e w' =>
      ((openF s li ga fa l ps ≠ 0 ∧ e = .returned (.tuple #[.pointer none, .int .i64 (openF s li ga fa l ps)])) ∨
       (openF s li ga fa l ps = 0 ∧ ∃ g, e = .returned (.tuple #[.pointer (some ⟨g, 0, none⟩), .int .i64 0]) ∧ BenchAt w' g ⟨s, li, ga, fa, l, 0⟩ A c)) ∧ Below w.heap.size w w' := by
  obtain rfl : ps.length = n := hp.1
  have HR := Aside0.mk hr
  have HP := Aside0.mk hp
  have hn : ps.length ≤ 9223372036854775807 := hp.2.1
  have hl : l.length ≤ 9223372036854775807 := hr.2.1
  have HB := Aside0.mk (hb1 w (.cells #[.int .i64 s, .int .i64 li, .int .i64 ga, .int .i64 fa, .slice A l.length c] 24))
  have K := Aside0.mk (new_blk w (.cells #[.int .i64 s, .int .i64 li, .int .i64 ga, .int .i64 fa, .slice A l.length c] 24))
  clear hr hp
  go_enter Try.func43, Try.ntmps43
  go_wp2_with fail
  with_reducible refine (checkMill18 s li ga fa A c l _ (by exact Kd.C_below HR.out HB.out) hc).mono ?_
  rintro e w1 ⟨rfl, hb⟩
  have K1 := Aside0.mk (blk_below K.out hb)
  have HB1 := Aside0.mk (below_step HB.out hb)
  clear hb K HB
  by_cases hA : checkMillF s li ga fa l = 0
  · have HA := Aside0.mk hA
    rw [hA]
    clear hA
    go_wp2
    go_loopw [16] (fun i wr => ∃ k : Nat, k ≤ ps.length ∧ i = .int .i64 k ∧ Aside0 (∀ q, q ∈ ps.take k → planErrF l.length q = 0) ∧ Aside0 (wr.heap[w.heap.size]? = some (.cells #[.int .i64 s, .int .i64 li, .int .i64 ga, .int .i64 fa, .slice A l.length c] 24 (0, 0))) ∧ Aside0 (Below w.heap.size w wr)) (fun i _ => ps.length - (intOf i).toNat)
    case atStart => exact ⟨0, Nat.zero_le _, rfl, ⟨fun y hy => by simp at hy⟩, K1, HB1⟩
    case round =>
      clear K1 HB1
      obtain ⟨k, hk, rfl, hno, K1, HB1⟩ := hrel
      obtain ⟨c0, c1, c2, c3, c4⟩ := blk5 K1.out
      by_cases hlt : k < ps.length
      · obtain ⟨ad, p, cs, rfl, hx, hK, hcs⟩ := C_elem ([] : List Int) (Kd.C_below HP.out HB1.out) k hlt
        obtain ⟨A0, d0, rfl, l0, g0⟩ := hK
        have h0 : wr.cell? (ad.add k) = some (.slice A0 p.length d0) := by have := hcs 0 _ rfl; rwa [show k * (Kd.slice 3 (Kd.int .i64)).sz + 0 = k from by simp [Kd.slice]] at this
        have HX := Aside0.mk hx
        have G0 := Aside0.mk g0
        clear hx hcs g0
        by_cases hq : p.length = l.length
        · have HQ := Aside0.mk hq
          have hq1 : ((p.length : Int) != (l.length : Int)) = false := by simp [hq]
          clear hq
          go_wp2_with fail
          with_reducible refine (contains73 badN 74 #[] bad_enters A0 d0 p _ (by exact bad_pred _) (by exact G0.out) l0).mono ?_
          rintro e w2 ⟨rfl, hb⟩
          have K2 := Aside0.mk (blk_below K1.out hb)
          have HB2 := Aside0.mk (below_step HB1.out hb)
          clear hb
          cases hA : p.any badN with
          | true =>
            have HA2 := Aside0.mk hA
            clear hA
            go_wp2
            go_ret2
            have h3 : planErrF l.length p = 3 := by simp [planErrF, HQ.out, HA2.out]
            have h4 : openF s li ga fa l ps = 3 := by rw [openF, if_pos HA.out, plans_ok k hno.out HX.out (by rw [h3]; decide), h3]
            exact ⟨.inl ⟨by rw [h4]; decide, by rw [h4]; rfl⟩, HB2.out⟩
          | false =>
            have HA2 := Aside0.mk hA
            clear hA
            go_wp2
            go_roundw
            case rel =>
              refine ⟨k + 1, by omega, by go_num, ⟨fun q hq => ?_⟩, K2, HB2⟩
              rw [take_snoc' HX.out] at hq
              rcases List.mem_append.1 hq with hq | hq
              · exact hno.out q hq
              · rw [List.mem_singleton.1 hq]; simp [planErrF, HQ.out, HA2.out]
            case measure => simp [intOf]; omega
        · have HQ := Aside0.mk hq
          have hq1 : ((p.length : Int) != (l.length : Int)) = true := by simp; omega
          clear hq
          go_wp2
          go_ret2
          have h3 : planErrF l.length p = 15 := by simp [planErrF, HQ.out]
          have h4 : openF s li ga fa l ps = 15 := by rw [openF, if_pos HA.out, plans_ok k hno.out HX.out (by rw [h3]; decide), h3]
          exact ⟨.inl ⟨by rw [h4]; decide, by rw [h4]; rfl⟩, HB1.out⟩
      · have hkl : Aside0 (k = ps.length) := ⟨by omega⟩
        go_wp2
        go_ret2
        have h4 : openF s li ga fa l ps = 0 := by rw [openF, if_pos HA.out, plans_all (by have := hno.out; rw [hkl.out, List.take_length] at this; exact this)]
        exact ⟨.inr ⟨h4, _, rfl, ⟨heap_alloc_new wr _, hc, Kd.C_below HR.out (below_alloc HB1.out _)⟩⟩, below_alloc HB1.out _⟩
  · have HA := Aside0.mk hA
    have h1 : (checkMillF s li ga fa l == 0) = false := by simpa using hA
    have h2 : (checkMillF s li ga fa l != 0) = true := by simpa using hA
    clear hA
    go_wp2
    go_ret2
    exact ⟨.inl ⟨by simp [openF, HA.out], by simp [openF, HA.out]⟩, HB1.out⟩
end Go.Proofs.Ytpoopogojocolaa.P
