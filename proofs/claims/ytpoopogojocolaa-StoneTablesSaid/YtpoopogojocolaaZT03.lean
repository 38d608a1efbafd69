/- The contracts of slices.IndexFunc and slices.ContainsFunc at this seat's types, for every predicate that keeps what lies. -/
import Derived.Test.YtpoopogojocolaaZT01
import Derived.Test.YtpoopogojocolaaZT02
namespace Go.Proofs.Ytpoopogojocolaa.P
open Go.RowKit Go.Proofs.YtpoopogojocolaaW.PrintWords Go.Proofs.YtpoopogojocolaaW.PrintLast Go.Proofs.YtpoopogojocolaaW.PrintMore
attribute [local go_sem] max2_mx min2_mn max_two min_two
set_option linter.unusedVariables false
set_option linter.unusedSimpArgs false
set_option maxHeartbeats 8000000 in
set_option maxRecDepth 100000 in
theorem index85 (p : Int → Bool) (g : Nat) (lb : Array Value) (eg : ∀ args w, (callFunc g args).run Try.prog w = .ok (.enter g args) w) (A : Option Addr) (c : Nat) (l : List (Int)) (w : World)
    (hp : Pred Try.prog g lb (Kd.int .i64) one p w) (hr : Kd.C (Kd.int .i64) w A l.length l) (hc : l.length ≤ c) :
    Calls Try.prog 85 #[.slice A l.length c, .func (.func g) #[] lb] w fun e w' => e = .returned (.int .i64 (idx p l)) ∧ Below w.heap.size w w' := by
  have HP := Aside0.mk hp
  have HR := Aside0.mk hr
  have hn : l.length ≤ 9223372036854775807 := hr.2.1
  clear hp hr
  go_enter Try.func85, Try.ntmps85
  go_wp2
  go_loopw [8] (fun i wr => ∃ k : Nat, k ≤ l.length ∧ i = .int .i64 k ∧ Aside0 (∀ y, y ∈ l.take k → p y = false) ∧ Aside0 (Below w.heap.size w wr)) (fun i _ => l.length - (intOf i).toNat)
  case atStart => exact ⟨0, Nat.zero_le _, rfl, ⟨fun y hy => by simp at hy⟩, ⟨Below.refl _ _⟩⟩
  case round =>
    obtain ⟨k, hk, rfl, hno, hB⟩ := hrel
    by_cases hlt : k < l.length
    · obtain ⟨ad, x, cs, rfl, hx, hK, hcs⟩ := C_elem (0 : Int) (Kd.C_below HR.out hB.out) k hlt
      have hK0 := hK; obtain rfl : cs = [.int .i64 x] := hK0; have h0 : wr.cell? (ad.add k) = some (.int .i64 x) := by have := hcs 0 _ rfl; rwa [show k * (Kd.int .i64).sz + 0 = k from by simp [Kd.int, Kd.scalar]] at this
      have HX := Aside0.mk hx
      have hcall := HP.out wr x _ hB.out hK
      clear hx hK hcs
      cases hq : p x with
      | true =>
        rw [hq] at hcall
        have HQ := Aside0.mk hq
        clear hq
        go_wp2_with (go_at_fn g; refine hcall.mono ?_; rintro e w' ⟨rfl, hb'⟩)
        go_ret
        exact ⟨by rw [idx_hit p l k HX.out HQ.out hno.out]; rfl, below_step hB.out hb'⟩
      | false =>
        rw [hq] at hcall
        have HQ := Aside0.mk hq
        clear hq
        go_wp2_with (go_at_fn g; refine hcall.mono ?_; rintro e w' ⟨rfl, hb'⟩)
        go_roundw
        case rel =>
          exact ⟨k + 1, by omega, by go_num, ⟨no_next HX.out HQ.out hno.out⟩, ⟨below_step hB.out hb'⟩⟩
        case measure => simp [intOf]; omega
    · have hkl : Aside0 (k = l.length) := ⟨by omega⟩
      go_wp2
      go_ret
      exact ⟨by rw [idx_miss p l (by have := hno.out; rw [hkl.out, List.take_length] at this; exact this)]; rfl, hB.out⟩
set_option maxHeartbeats 8000000 in
set_option maxRecDepth 100000 in
theorem contains76 (p : Int → Bool) (g : Nat) (lb : Array Value) (eg : ∀ args w, (callFunc g args).run Try.prog w = .ok (.enter g args) w) (A : Option Addr) (c : Nat) (l : List (Int)) (w : World)
    (hp : Pred Try.prog g lb (Kd.int .i64) one p w) (hr : Kd.C (Kd.int .i64) w A l.length l) (hc : l.length ≤ c) :
    Calls Try.prog 76 #[.slice A l.length c, .func (.func g) #[] lb] w fun e w' => e = .returned (.bool (l.any p)) ∧ Below w.heap.size w w' := by
  have HC := Aside0.mk (idx_any p l)
  have HI := Aside0.mk (index85 p g lb eg A c l w hp hr hc)
  clear hp hr
  go_enter Try.func76, Try.ntmps76
  generalize idx p l = n at HC HI
  go_wp2_with fail
  refine HI.out.mono ?_
  rintro e w1 ⟨rfl, hb⟩
  go_wp2
  go_ret
  exact ⟨by rw [← HC.out]; rfl, hb⟩
set_option maxHeartbeats 8000000 in
set_option maxRecDepth 100000 in
theorem index84 (p : Int → Bool) (g : Nat) (lb : Array Value) (eg : ∀ args w, (callFunc g args).run Try.prog w = .ok (.enter g args) w) (A : Option Addr) (c : Nat) (l : List (Int)) (w : World)
    (hp : Pred Try.prog g lb (Kd.int .i64) one p w) (hr : Kd.C (Kd.int .i64) w A l.length l) (hc : l.length ≤ c) :
    Calls Try.prog 84 #[.slice A l.length c, .func (.func g) #[] lb] w fun e w' => e = .returned (.int .i64 (idx p l)) ∧ Below w.heap.size w w' := by
  have HP := Aside0.mk hp
  have HR := Aside0.mk hr
  have hn : l.length ≤ 9223372036854775807 := hr.2.1
  clear hp hr
  go_enter Try.func84, Try.ntmps84
  go_wp2
  go_loopw [8] (fun i wr => ∃ k : Nat, k ≤ l.length ∧ i = .int .i64 k ∧ Aside0 (∀ y, y ∈ l.take k → p y = false) ∧ Aside0 (Below w.heap.size w wr)) (fun i _ => l.length - (intOf i).toNat)
  case atStart => exact ⟨0, Nat.zero_le _, rfl, ⟨fun y hy => by simp at hy⟩, ⟨Below.refl _ _⟩⟩
  case round =>
    obtain ⟨k, hk, rfl, hno, hB⟩ := hrel
    by_cases hlt : k < l.length
    · obtain ⟨ad, x, cs, rfl, hx, hK, hcs⟩ := C_elem (0 : Int) (Kd.C_below HR.out hB.out) k hlt
      have hK0 := hK; obtain rfl : cs = [.int .i64 x] := hK0; have h0 : wr.cell? (ad.add k) = some (.int .i64 x) := by have := hcs 0 _ rfl; rwa [show k * (Kd.int .i64).sz + 0 = k from by simp [Kd.int, Kd.scalar]] at this
      have HX := Aside0.mk hx
      have hcall := HP.out wr x _ hB.out hK
      clear hx hK hcs
      cases hq : p x with
      | true =>
        rw [hq] at hcall
        have HQ := Aside0.mk hq
        clear hq
        go_wp2_with (go_at_fn g; refine hcall.mono ?_; rintro e w' ⟨rfl, hb'⟩)
        go_ret
        exact ⟨by rw [idx_hit p l k HX.out HQ.out hno.out]; rfl, below_step hB.out hb'⟩
      | false =>
        rw [hq] at hcall
        have HQ := Aside0.mk hq
        clear hq
        go_wp2_with (go_at_fn g; refine hcall.mono ?_; rintro e w' ⟨rfl, hb'⟩)
        go_roundw
        case rel =>
          exact ⟨k + 1, by omega, by go_num, ⟨no_next HX.out HQ.out hno.out⟩, ⟨below_step hB.out hb'⟩⟩
        case measure => simp [intOf]; omega
    · have hkl : Aside0 (k = l.length) := ⟨by omega⟩
      go_wp2
      go_ret
      exact ⟨by rw [idx_miss p l (by have := hno.out; rw [hkl.out, List.take_length] at this; exact this)]; rfl, hB.out⟩
set_option maxHeartbeats 8000000 in
set_option maxRecDepth 100000 in
theorem contains73 (p : Int → Bool) (g : Nat) (lb : Array Value) (eg : ∀ args w, (callFunc g args).run Try.prog w = .ok (.enter g args) w) (A : Option Addr) (c : Nat) (l : List (Int)) (w : World)
    (hp : Pred Try.prog g lb (Kd.int .i64) one p w) (hr : Kd.C (Kd.int .i64) w A l.length l) (hc : l.length ≤ c) :
    Calls Try.prog 73 #[.slice A l.length c, .func (.func g) #[] lb] w fun e w' => e = .returned (.bool (l.any p)) ∧ Below w.heap.size w w' := by
  have HC := Aside0.mk (idx_any p l)
  have HI := Aside0.mk (index84 p g lb eg A c l w hp hr hc)
  clear hp hr
  go_enter Try.func73, Try.ntmps73
  generalize idx p l = n at HC HI
  go_wp2_with fail
  refine HI.out.mono ?_
  rintro e w1 ⟨rfl, hb⟩
  go_wp2
  go_ret
  exact ⟨by rw [← HC.out]; rfl, hb⟩
set_option maxHeartbeats 8000000 in
set_option maxRecDepth 100000 in
theorem index83 (p : List Int → Bool) (g : Nat) (lb : Array Value) (eg : ∀ args w, (callFunc g args).run Try.prog w = .ok (.enter g args) w) (A : Option Addr) (c : Nat) (l : List (List Int)) (w : World)
    (hp : Pred Try.prog g lb (Kd.slice 2 (Kd.int .i64)) one p w) (hr : Kd.C (Kd.slice 2 (Kd.int .i64)) w A l.length l) (hc : l.length ≤ c) :
    Calls Try.prog 83 #[.slice A l.length c, .func (.func g) #[] lb] w fun e w' => e = .returned (.int .i64 (idx p l)) ∧ Below w.heap.size w w' := by
  have HP := Aside0.mk hp
  have HR := Aside0.mk hr
  have hn : l.length ≤ 9223372036854775807 := hr.2.1
  clear hp hr
  go_enter Try.func83, Try.ntmps83
  go_wp2
  go_loopw [8] (fun i wr => ∃ k : Nat, k ≤ l.length ∧ i = .int .i64 k ∧ Aside0 (∀ y, y ∈ l.take k → p y = false) ∧ Aside0 (Below w.heap.size w wr)) (fun i _ => l.length - (intOf i).toNat)
  case atStart => exact ⟨0, Nat.zero_le _, rfl, ⟨fun y hy => by simp at hy⟩, ⟨Below.refl _ _⟩⟩
  case round =>
    obtain ⟨k, hk, rfl, hno, hB⟩ := hrel
    by_cases hlt : k < l.length
    · obtain ⟨ad, x, cs, rfl, hx, hK, hcs⟩ := C_elem ([] : List Int) (Kd.C_below HR.out hB.out) k hlt
      have hK0 := hK; obtain ⟨A0, c0, rfl, l0, g0⟩ := hK0; have h0 : wr.cell? (ad.add k) = some (.slice A0 x.length c0) := by have := hcs 0 _ rfl; rwa [show k * (Kd.slice 2 (Kd.int .i64)).sz + 0 = k from by simp [Kd.slice]] at this
      have HX := Aside0.mk hx
      have hcall := HP.out wr x _ hB.out hK
      clear hx hK hcs
      cases hq : p x with
      | true =>
        rw [hq] at hcall
        have HQ := Aside0.mk hq
        clear hq
        go_wp2_with (go_at_fn g; refine hcall.mono ?_; rintro e w' ⟨rfl, hb'⟩)
        go_ret
        exact ⟨by rw [idx_hit p l k HX.out HQ.out hno.out]; rfl, below_step hB.out hb'⟩
      | false =>
        rw [hq] at hcall
        have HQ := Aside0.mk hq
        clear hq
        go_wp2_with (go_at_fn g; refine hcall.mono ?_; rintro e w' ⟨rfl, hb'⟩)
        go_roundw
        case rel =>
          exact ⟨k + 1, by omega, by go_num, ⟨no_next HX.out HQ.out hno.out⟩, ⟨below_step hB.out hb'⟩⟩
        case measure => simp [intOf]; omega
    · have hkl : Aside0 (k = l.length) := ⟨by omega⟩
      go_wp2
      go_ret
      exact ⟨by rw [idx_miss p l (by have := hno.out; rw [hkl.out, List.take_length] at this; exact this)]; rfl, hB.out⟩
set_option maxHeartbeats 8000000 in
set_option maxRecDepth 100000 in
theorem contains66 (p : List Int → Bool) (g : Nat) (lb : Array Value) (eg : ∀ args w, (callFunc g args).run Try.prog w = .ok (.enter g args) w) (A : Option Addr) (c : Nat) (l : List (List Int)) (w : World)
    (hp : Pred Try.prog g lb (Kd.slice 2 (Kd.int .i64)) one p w) (hr : Kd.C (Kd.slice 2 (Kd.int .i64)) w A l.length l) (hc : l.length ≤ c) :
    Calls Try.prog 66 #[.slice A l.length c, .func (.func g) #[] lb] w fun e w' => e = .returned (.bool (l.any p)) ∧ Below w.heap.size w w' := by
  have HC := Aside0.mk (idx_any p l)
  have HI := Aside0.mk (index83 p g lb eg A c l w hp hr hc)
  clear hp hr
  go_enter Try.func66, Try.ntmps66
  generalize idx p l = n at HC HI
  go_wp2_with fail
  refine HI.out.mono ?_
  rintro e w1 ⟨rfl, hb⟩
  go_wp2
  go_ret
  exact ⟨by rw [← HC.out]; rfl, hb⟩
set_option maxHeartbeats 8000000 in
set_option maxRecDepth 100000 in
theorem index78 (p : S73 → Bool) (g : Nat) (lb : Array Value) (eg : ∀ args w, (callFunc g args).run Try.prog w = .ok (.enter g args) w) (A : Option Addr) (c : Nat) (l : List (S73)) (w : World)
    (hp : Pred Try.prog g lb (k73) aggV p w) (hr : Kd.C (k73) w A l.length l) (hc : l.length ≤ c) :
    Calls Try.prog 78 #[.slice A l.length c, .func (.func g) #[] lb] w fun e w' => e = .returned (.int .i64 (idx p l)) ∧ Below w.heap.size w w' := by
  have HP := Aside0.mk hp
  have HR := Aside0.mk hr
  have hn : l.length ≤ 9223372036854775807 := hr.2.1
  clear hp hr
  go_enter Try.func78, Try.ntmps78
  go_wp2
  go_loopw [8] (fun i wr => ∃ k : Nat, k ≤ l.length ∧ i = .int .i64 k ∧ Aside0 (∀ y, y ∈ l.take k → p y = false) ∧ Aside0 (Below w.heap.size w wr)) (fun i _ => l.length - (intOf i).toNat)
  case atStart => exact ⟨0, Nat.zero_le _, rfl, ⟨fun y hy => by simp at hy⟩, ⟨Below.refl _ _⟩⟩
  case round =>
    obtain ⟨k, hk, rfl, hno, hB⟩ := hrel
    by_cases hlt : k < l.length
    · obtain ⟨ad, x, cs, rfl, hx, hK, hcs⟩ := C_elem z73 (Kd.C_below HR.out hB.out) k hlt
      have hk0 := k73_open hK; subst hk0; have h0 : wr.cell? (ad.add (k * 3)) = some (.int .i64 x.f0.f0) := (by have := hcs 0 _ rfl; exact this); have h1 : wr.cell? ⟨(ad.add (k * 3)).block, (ad.add (k * 3)).off + 1, none⟩ = some (.int .i64 x.f0.f1) := (by rw [← add_field _ _ 1 (by omega)]; exact hcs 1 _ rfl); have h2 : wr.cell? ⟨(ad.add (k * 3)).block, (ad.add (k * 3)).off + 2, none⟩ = some (.int .i64 x.f1) := (by rw [← add_field _ _ 2 (by omega)]; exact hcs 2 _ rfl)
      have HX := Aside0.mk hx
      have hcall := HP.out wr x _ hB.out hK
      clear hx hK hcs
      cases hq : p x with
      | true =>
        rw [hq] at hcall
        have HQ := Aside0.mk hq
        clear hq
        go_wp2_with (go_at_fn g; refine hcall.mono ?_; rintro e w' ⟨rfl, hb'⟩)
        go_ret
        exact ⟨by rw [idx_hit p l k HX.out HQ.out hno.out]; rfl, below_step hB.out hb'⟩
      | false =>
        rw [hq] at hcall
        have HQ := Aside0.mk hq
        clear hq
        go_wp2_with (go_at_fn g; refine hcall.mono ?_; rintro e w' ⟨rfl, hb'⟩)
        go_roundw
        case rel =>
          exact ⟨k + 1, by omega, by go_num, ⟨no_next HX.out HQ.out hno.out⟩, ⟨below_step hB.out hb'⟩⟩
        case measure => simp [intOf]; omega
    · have hkl : Aside0 (k = l.length) := ⟨by omega⟩
      go_wp2
      go_ret
      exact ⟨by rw [idx_miss p l (by have := hno.out; rw [hkl.out, List.take_length] at this; exact this)]; rfl, hB.out⟩
set_option maxHeartbeats 8000000 in
set_option maxRecDepth 100000 in
theorem contains54 (p : S73 → Bool) (g : Nat) (lb : Array Value) (eg : ∀ args w, (callFunc g args).run Try.prog w = .ok (.enter g args) w) (A : Option Addr) (c : Nat) (l : List (S73)) (w : World)
    (hp : Pred Try.prog g lb (k73) aggV p w) (hr : Kd.C (k73) w A l.length l) (hc : l.length ≤ c) :
    Calls Try.prog 54 #[.slice A l.length c, .func (.func g) #[] lb] w fun e w' => e = .returned (.bool (l.any p)) ∧ Below w.heap.size w w' := by
  have HC := Aside0.mk (idx_any p l)
  have HI := Aside0.mk (index78 p g lb eg A c l w hp hr hc)
  clear hp hr
  go_enter Try.func54, Try.ntmps54
  generalize idx p l = n at HC HI
  go_wp2_with fail
  refine HI.out.mono ?_
  rintro e w1 ⟨rfl, hb⟩
  go_wp2
  go_ret
  exact ⟨by rw [← HC.out]; rfl, hb⟩
end Go.Proofs.Ytpoopogojocolaa.P
