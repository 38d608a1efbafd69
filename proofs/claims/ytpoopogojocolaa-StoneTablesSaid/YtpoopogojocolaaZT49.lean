/- What is handed to the laws of stone, laid open. No condition. -/
import Derived.Deep.Slices
import Derived.Deep.Fields
import Derived.ChangeSame
import Derived.ChangeArms
import Derived.WideShapes
import Derived.Test.YtpoopogojocolaaZT02
import Derived.Test.YtpoopogojocolaaZT01
namespace Go.Proofs.Ytpoopogojocolaa.P
open Go Go.RowKit Go.ChangeShapes Go.WideShapes Go.Deep Go.Proofs.YtpoopogojocolaaW.PrintWords Go.Proofs.YtpoopogojocolaaW.PrintLast Go.Proofs.YtpoopogojocolaaW.PrintMore
set_option linter.unusedVariables false
set_option linter.unusedSimpArgs false
structure Opens {α : Type} (P : Program) (d : Kd α) (t : TypeId) : Prop where
  get : ∀ {H : Type} (enc : TypeId × Value → H) (w : World) (base : Nat) (spare : Nat → Bool) (held : Bool) (fuel : Nat) (cs : List Value) (y : DataW H × List MemPlace), DataW.trod enc P w base spare held fuel t cs = some y → ∃ x, d.K w x cs
theorem opens_int {P : Program} {k : IntKind} {t : TypeId} (ht : P.underlying t = some (.int k)) : Opens P (Kd.int k) t := ⟨fun enc w base spare held fuel cs y h => by
  obtain ⟨n, rfl, _⟩ := DataW.trod_int ht h
  exact ⟨n, rfl⟩⟩
theorem opens_iso {α β : Type} {P : Program} {d : Kd α} {t : TypeId} (f : β → α) (g : α → β) (hfg : ∀ x, f (g x) = x) (h : Opens P d t) : Opens P (Kd.iso d f) t := ⟨fun enc w base spare held fuel cs y hy => by
  obtain ⟨x, hx⟩ := h.get enc w base spare held fuel cs y hy
  exact ⟨g x, by show d.K w (f (g x)) cs; rw [hfg]; exact hx⟩⟩
theorem list_of {α : Type} (Q : Nat → α → Prop) : ∀ n : Nat, (∀ i, i < n → ∃ x, Q i x) → ∃ xs : List α, xs.length = n ∧ ∀ j p, xs[j]? = some p → Q j p
  | 0, _ => ⟨[], rfl, fun j p h => by simp at h⟩
  | n + 1, h => by
    obtain ⟨xs, hl, hq⟩ := list_of Q n (fun i hi => h i (by omega))
    obtain ⟨x, hx⟩ := h n (by omega)
    refine ⟨xs ++ [x], by simp [hl], fun j p hj => ?_⟩
    by_cases hjn : j < n
    · rw [List.getElem?_append_left (by omega)] at hj
      exact hq j p hj
    · rw [List.getElem?_append_right (by omega)] at hj
      have hj0 : j - xs.length = 0 := by
        have := (List.getElem?_eq_some_iff.1 hj).1
        simp at this
        omega
      rw [hj0] at hj
      obtain rfl : x = p := by simpa using hj
      obtain rfl : j = n := by omega
      exact hx
theorem opens_slice {α : Type} {P : Program} {d : Kd α} {t e : TypeId} (ht : P.underlying t = some (.slice e)) (hd : Opens P d e) (hsz : P.cellsOf e = d.sz) : Opens P (Kd.slice e d) t := ⟨fun enc w base spare held fuel cs y h => by
  rcases open_slice ht h with ⟨rfl, _⟩ | ⟨a, len, cap, m, n, D, Pl, rfl, hb, hl, hm, hmm, hx, hi⟩
  · exact ⟨[], none, 0, rfl, Nat.le_refl _, C_nil d w⟩
  · have hlm : len ≤ m := by rw [hmm]; split <;> omega
    obtain ⟨xs, hxl, hxs⟩ := list_of (fun i x => ∃ cs', w.cells? base (a.add (i * P.cellsOf e)) (P.cellsOf e) = some cs' ∧ d.K w x cs') len (fun i hilt => by
      obtain ⟨cs', hc, hy⟩ := hi i (by omega)
      obtain ⟨x, hx⟩ := hd.get enc w base spare held n cs' _ hy
      exact ⟨x, cs', hc, hx⟩)
    subst hxl
    refine ⟨xs, some a, cap, rfl, hl, rfl, by simp only [maxLen] at hm; omega, fun _ => ⟨a, rfl, fun j p hj => ?_⟩⟩
    obtain ⟨cs', hc, hk⟩ := hxs j p hj
    obtain ⟨_, hcl, hat⟩ := World.cells?_some hc
    refine ⟨cs', d.K_len hk, hk, fun i u hu => ?_⟩
    have hil : i < P.cellsOf e := by rw [← hcl]; exact (List.getElem?_eq_some_iff.1 hu).1
    have := hat i hil
    rw [Go.Deep.add_add, hsz, hu] at this
    exact this⟩
structure OpensFs {α : Type} (P : Program) (fs : Array Field) (i off total : Nat) (d : Kd α) : Prop where
  get : ∀ {H : Type} (enc : TypeId × Value → H) (w : World) (base : Nat) (spare : Nat → Bool) (held : Bool) (n : Nat) (cs : List Value) (ys : List (DataW H × List MemPlace)), cs.length = total → ys.length = fs.size →
    (∀ (j : Nat) (f : Field), fs[j]? = some f → DataW.trod enc P w base spare held n f.type ((cs.drop f.offset).take (P.cellsOf f.type)) = ys[j]?) → ∃ x, d.K w x (cs.drop off)
theorem opens_last {α : Type} {P : Program} {fs : Array Field} {i off total : Nat} {d : Kd α} {f : Field} (hf : fs[i]? = some f) (ho : f.offset = off) (hs : P.cellsOf f.type = d.sz) (ht : off + d.sz = total) (hd : Opens P d f.type) : OpensFs P fs i off total d :=
  ⟨fun enc w base spare held n cs ys hc hy h => by
    have h1 := h i f hf
    rw [ho, hs, List.take_of_length_le (by rw [List.length_drop]; omega)] at h1
    have hi : i < ys.length := by rw [hy]; exact (Array.getElem?_eq_some_iff.1 hf).1
    rw [List.getElem?_eq_getElem hi] at h1
    exact hd.get enc w base spare held n _ _ h1⟩
theorem opens_more {α β : Type} {P : Program} {fs : Array Field} {i off total : Nat} {d : Kd α} {r : Kd β} {f : Field} (hf : fs[i]? = some f) (ho : f.offset = off) (hs : P.cellsOf f.type = d.sz) (hd : Opens P d f.type) (hr : OpensFs P fs (i + 1) (off + d.sz) total r) : OpensFs P fs i off total (Kd.pair d r) :=
  ⟨fun enc w base spare held n cs ys hc hy h => by
    have h1 := h i f hf
    rw [ho, hs] at h1
    have hi : i < ys.length := by rw [hy]; exact (Array.getElem?_eq_some_iff.1 hf).1
    rw [List.getElem?_eq_getElem hi] at h1
    obtain ⟨x, hx⟩ := hd.get enc w base spare held n _ _ h1
    obtain ⟨z, hz⟩ := hr.get enc w base spare held n cs ys hc hy h
    exact ⟨(x, z), (cs.drop off).take d.sz, cs.drop (off + d.sz), by rw [← List.drop_drop, List.take_append_drop], hx, hz⟩⟩
theorem opens_struct {α : Type} {P : Program} {t : TypeId} {fs : Array Field} {d : Kd α} (ht : P.underlying t = some (.struct fs)) (h : OpensFs P fs 0 0 (P.cellsOf t) d) : Opens P d t := ⟨fun enc w base spare held fuel cs y hy => by
  obtain ⟨ys, n, _, _, hc, hl, hf⟩ := DataW.trod_struct ht hy
  obtain ⟨x, hx⟩ := h.get enc w base spare held n cs ys hc hl hf
  exact ⟨x, hx⟩⟩
theorem open_row_arg {α : Type} {P : Program} {d : Kd α} {t e : TypeId} {H : Type} {enc : TypeId × Value → H} {w : World} {base : Nat} {spare : Nat → Bool} {held : Bool} {v : Value} {D : DataW H} {p : List MemPlace} (h : DataW.Trod enc P w base spare held t v D p) (ht : P.underlying t = some (.slice e)) (ho : Opens P (Kd.slice e d) t) {r : Reach} {b : Nat} (hv : Value.okWide P w r b t v) :
    ∃ A c xs, v = .slice A (List.length xs) c ∧ xs.length ≤ c ∧ Kd.C d w A xs.length xs := by
  obtain ⟨a, len, cap, rfl⟩ := okWide_slice ht hv
  obtain ⟨fuel, hf⟩ := h
  obtain ⟨xs, A, c, he, hl, hC⟩ := ho.get enc w base spare held fuel _ _ hf
  have he' : Value.slice a len cap = Value.slice A xs.length c := by simpa [Value.cells] using he
  exact ⟨A, c, xs, he', hl, hC⟩
theorem open_struct_arg {α : Type} {P : Program} {d : Kd α} {t : TypeId} {fs : Array Field} {H : Type} {enc : TypeId × Value → H} {w : World} {base : Nat} {spare : Nat → Bool} {held : Bool} {v : Value} {D : DataW H} {p : List MemPlace} (h : DataW.Trod enc P w base spare held t v D p) (ht : P.underlying t = some (.struct fs)) (ho : Opens P d t) {r : Reach} {b : Nat} (hv : Value.okWide P w r b t v) :
    ∃ cs x, v = .agg cs ∧ d.K w x cs.toList := by
  obtain ⟨cs, rfl, _⟩ := okWide_struct ht hv
  obtain ⟨fuel, hf⟩ := h
  obtain ⟨x, hx⟩ := ho.get enc w base spare held fuel _ _ hf
  exact ⟨cs, x, rfl, by simpa [Value.cells] using hx⟩
end Go.Proofs.Ytpoopogojocolaa.P
namespace Go.Proofs.Ytpoopogojocolaa.P
open Go Go.RowKit Go.ChangeShapes Go.WideShapes Go.Proofs.YtpoopogojocolaaW.PrintWords Go.Proofs.YtpoopogojocolaaW.PrintLast Go.Proofs.YtpoopogojocolaaW.PrintMore
set_option linter.unusedVariables false
set_option linter.unusedSimpArgs false
theorem opens_i64 : Opens Try.prog (Kd.int .i64) 2 := opens_int Try.underlying2
theorem opens_range : Opens Try.prog k71 71 := opens_iso _ (fun x => ⟨x.1, x.2⟩) (fun _ => rfl) (opens_struct Try.underlying71 (opens_more (i := 0) rfl rfl (by kernel_rfl) opens_i64 (opens_last (i := 1) rfl rfl (by kernel_rfl) (by kernel_rfl) opens_i64)))
theorem opens_hour : Opens Try.prog k73 73 := opens_iso _ (fun x => ⟨x.1, x.2⟩) (fun _ => rfl) (opens_struct Try.underlying73 (opens_more (i := 0) rfl rfl (by kernel_rfl) opens_range (opens_last (i := 1) rfl rfl (by kernel_rfl) (by kernel_rfl) opens_i64)))
theorem opens_hours : Opens Try.prog (Kd.slice 73 k73) 22 := opens_slice Try.underlying22 opens_hour (by kernel_rfl)
theorem opens_mill : Opens Try.prog k24 24 := opens_iso _ (fun x => ⟨x.1, x.2.1, x.2.2.1, x.2.2.2.1, x.2.2.2.2⟩) (fun _ => rfl) (opens_struct Try.underlying24 (opens_more (i := 0) rfl rfl (by kernel_rfl) opens_i64 (opens_more (i := 1) rfl rfl (by kernel_rfl) opens_i64 (opens_more (i := 2) rfl rfl (by kernel_rfl) opens_i64 (opens_more (i := 3) rfl rfl (by kernel_rfl) opens_i64 (opens_last (i := 4) rfl rfl (by kernel_rfl) (by kernel_rfl) opens_hours))))))
theorem opens_longs : Opens Try.prog (Kd.slice 2 (Kd.int .i64)) 31 := opens_slice Try.underlying31 opens_i64 (by kernel_rfl)
theorem opens_table : Opens Try.prog (Kd.slice 31 (Kd.slice 2 (Kd.int .i64))) 51 := opens_slice Try.underlying51 opens_longs (by kernel_rfl)
set_option maxRecDepth 100000 in
theorem open_mill {H : Type} {enc : TypeId × Value → H} {w : World} {base : Nat} {spare : Nat → Bool} {held : Bool} {v : Value} {D : DataW H} {p : List MemPlace} (h : DataW.Trod enc Try.prog w base spare held 24 v D p) {r : Reach} {b : Nat} (hv : Value.okWide Try.prog w r b 24 v) :
    ∃ s li ga fa A c l, v = .agg #[.int .i64 s, .int .i64 li, .int .i64 ga, .int .i64 fa, .slice A (List.length l) c] ∧ l.length ≤ c ∧ Kd.C k73 w A l.length l := by
  obtain ⟨cs, x, rfl, hK⟩ := open_struct_arg h Try.underlying24 opens_mill hv
  obtain ⟨A, c, he, hl, hC⟩ := k24_open hK
  obtain ⟨cs⟩ := cs
  have he' : cs = [.int .i64 x.f0, .int .i64 x.f1, .int .i64 x.f2, .int .i64 x.f3, .slice A x.f4.length c] := he
  subst he'
  exact ⟨x.f0, x.f1, x.f2, x.f3, A, c, x.f4, rfl, hl, hC⟩
end Go.Proofs.Ytpoopogojocolaa.P
