/- Proved: a value that reads as data at a Go type is read as a value of the kind that the printed contracts speak of: whole numbers, bools, slices, structs of one-cell fields, one in another. No statement of the seat is proved here. -/
import Derived.Test.YtjkhmagnlaijhaaProg
import Derived.Test.YtjkhmagnlaijhaaWNEv
import Derived.Deep.Slices
import Derived.Deep.Fields
import Derived.ChangeSame
import Derived.KernelRfl
import Derived.OpenShut
namespace Go.Proofs.Ytjkhmagnlaijhaa.Open
open Go.Proofs.YtjkhmagnlaijhaaW.PrintWords Go.ChangeShapes Go.WideShapes Go.Deep
set_option linter.unusedVariables false

/-- Whatever reads as data at type t is of the kind d, and meets wf. -/
def Opens {α : Type} (P : Program) (t : TypeId) (d : Kd α) (wf : α → Prop) : Prop :=
  ∀ (H : Type) (enc : TypeId × Value → H) (w : World) (base : Nat) (spare : Nat → Bool) (held : Bool) (n : Nat) (cs : List Value) (y : DataW H × List MemPlace),
    DataW.trod enc P w base spare held n t cs = some y → ∃ x, d.K w x cs ∧ wf x
section
variable {α : Type} {P : Program} {d : Kd α} {wf : α → Prop}
theorem opens_int {k : IntKind} {t : TypeId} (ht : P.underlying t = some (.int k)) : Opens P t (Kd.int k) (fun x => (Lit.int k x).wf = true) := by
  intro H enc w base spare held n cs y h
  obtain ⟨x, rfl, _, hw⟩ := DataW.trod_int ht h
  exact ⟨x, rfl, hw⟩
theorem opens_bool {t : TypeId} (ht : P.underlying t = some .bool) : Opens P t Kd.bool (fun _ => True) := by
  intro H enc w base spare held n cs y h
  obtain ⟨x, rfl, _⟩ := DataW.trod_bool ht h
  exact ⟨x, rfl, trivial⟩
theorem build {Q : Nat → α → Prop} : ∀ len, (∀ i, i < len → ∃ x, Q i x) → ∃ xs : List α, xs.length = len ∧ ∀ i x, xs[i]? = some x → Q i x := by
  intro len
  induction len with
  | zero => intro _; exact ⟨[], rfl, fun i x h => by simp at h⟩
  | succ len ih =>
    intro h
    obtain ⟨xs, hl, hq⟩ := ih (fun i hi => h i (by omega))
    obtain ⟨x, hx⟩ := h len (by omega)
    refine ⟨xs ++ [x], by simp [hl], fun i z hz => ?_⟩
    rcases Nat.lt_or_ge i xs.length with hi | hi
    · rw [List.getElem?_append_left hi] at hz
      exact hq i z hz
    · rw [List.getElem?_append_right hi] at hz
      rcases Nat.eq_or_lt_of_le hi with he | he
      · rw [← he, Nat.sub_self] at hz
        simp at hz
        rw [← he, hl, ← hz]
        exact hx
      · rw [List.getElem?_eq_none (by simp; omega)] at hz
        cases hz
theorem opens_slice {t e : TypeId} (ht : P.underlying t = some (.slice e)) (hc : P.cellsOf e = d.sz) (ho : Opens P e d wf) : Opens P t (Kd.slice e d) (fun xs => xs.length ≤ maxLen ∧ ∀ x ∈ xs, wf x) := by
  intro H enc w base spare held n cs y h
  rcases open_slice ht h with ⟨rfl, _⟩ | ⟨a, len, cap, m, n', D, Pl, rfl, hb, hl, hm, hmm, hx, hi⟩
  · exact ⟨[], ⟨none, 0, rfl, Nat.le_refl _, ⟨rfl, by simp, fun h => absurd h (by simp)⟩⟩, by simp, by simp⟩
  · have hlm : len ≤ m := by rw [hmm]; split <;> omega
    obtain ⟨xs, hlen, hq⟩ := build (Q := fun i x => (∃ c, c.length = d.sz ∧ d.K w x c ∧ ∀ j u, c[j]? = some u → w.cell? (a.add (i * d.sz + j)) = some u) ∧ wf x) len (by
      intro i hil
      obtain ⟨cs', hcs, ht'⟩ := hi i (by omega)
      obtain ⟨x, hK, hw⟩ := ho H enc w base spare held n' cs' _ ht'
      obtain ⟨_, hcl, hat⟩ := World.cells?_some hcs
      refine ⟨x, ⟨cs', by rw [hcl, hc], hK, fun j u hj => ?_⟩, hw⟩
      have hjl : j < P.cellsOf e := by rw [← hcl]; exact (List.getElem?_eq_some_iff.1 hj).1
      have := hat j hjl
      rw [Deep.add_add, hc] at this
      rw [this, hj])
    refine ⟨xs, ⟨some a, cap, by rw [hlen], by omega, ⟨rfl, ?_, fun _ => ⟨a, rfl, fun j p hj => (hq j p hj).1⟩⟩⟩, by omega, fun x hx => ?_⟩
    · simp only [maxLen] at hm
      omega
    · obtain ⟨i, hi2⟩ := List.mem_iff_getElem?.1 hx
      exact (hq i x hi2).2
/-- A struct of one-cell fields: each cell reads at its field's type. -/
theorem struct_cells {H : Type} {enc : TypeId × Value → H} {w : World} {base : Nat} {spare : Nat → Bool} {held : Bool} {n : Nat} {cs : List Value} {y : DataW H × List MemPlace} {t : TypeId} {fs : Array Field} (ht : P.underlying t = some (.struct fs)) (hone : oneCellFields P fs = true)
    (h : DataW.trod enc P w base spare held n t cs = some y) : cs.length = P.cellsOf t ∧ ∃ n', ∀ (i : Nat) (f : Field) (c : Value), fs[i]? = some f → cs[i]? = some c → ∃ z, DataW.trod enc P w base spare held n' f.type [c] = some z := by
  obtain ⟨xs, n', _, _, hl, hlen, hf⟩ := DataW.trod_struct ht h
  refine ⟨hl, n', fun i f c hi hc => ?_⟩
  obtain ⟨ho, hk⟩ := hone_of hone i f hi
  have h1 := hf i f hi
  have hil : i < fs.size := (Array.getElem?_eq_some_iff.1 hi).1
  have hcl : i < cs.length := (List.getElem?_eq_some_iff.1 hc).1
  have hcc : cs[i]'hcl = c := (List.getElem?_eq_some_iff.1 hc).2
  rw [ho, hk, List.drop_eq_getElem_cons hcl, hcc, List.getElem?_eq_getElem (by omega)] at h1
  exact ⟨_, h1⟩
theorem list2 {β : Type} {l : List β} (h : l.length = 2) : ∃ a b, l = [a, b] := by
  match l, h with
  | [a, b], _ => exact ⟨a, b, rfl⟩
theorem list3 {β : Type} {l : List β} (h : l.length = 3) : ∃ a b c, l = [a, b, c] := by
  match l, h with
  | [a, b, c], _ => exact ⟨a, b, c, rfl⟩
theorem list4 {β : Type} {l : List β} (h : l.length = 4) : ∃ a b c d, l = [a, b, c, d] := by
  match l, h with
  | [a, b, c, d], _ => exact ⟨a, b, c, d, rfl⟩
theorem list5 {β : Type} {l : List β} (h : l.length = 5) : ∃ a b c d e, l = [a, b, c, d, e] := by
  match l, h with
  | [a, b, c, d, e], _ => exact ⟨a, b, c, d, e, rfl⟩
theorem list6 {β : Type} {l : List β} (h : l.length = 6) : ∃ a b c d e f, l = [a, b, c, d, e, f] := by
  match l, h with
  | [a, b, c, d, e, f], _ => exact ⟨a, b, c, d, e, f, rfl⟩
theorem opens_struct2 {t : TypeId} {f0 f1 : Field} {α0 α1 : Type} {d0 : Kd α0} {d1 : Kd α1} {w0 : α0 → Prop} {w1 : α1 → Prop} (ht : P.underlying t = some (.struct #[f0, f1])) (hone : oneCellFields P #[f0, f1] = true) (hC : P.cellsOf t = 2)
    (h0 : Opens P f0.type d0 w0) (h1 : Opens P f1.type d1 w1) : Opens P t (Kd.pair d0 d1) (fun x => w0 x.1 ∧ w1 x.2) := by
  intro H enc w base spare held n cs y h
  obtain ⟨hl, n', hf⟩ := struct_cells ht hone h
  obtain ⟨c0, c1, rfl⟩ := list2 (hl.trans hC)
  obtain ⟨z0, t0⟩ := hf 0 f0 c0 rfl rfl
  obtain ⟨z1, t1⟩ := hf 1 f1 c1 rfl rfl
  obtain ⟨x0, k0, q0⟩ := h0 _ _ _ _ _ _ _ _ _ t0
  obtain ⟨x1, k1, q1⟩ := h1 _ _ _ _ _ _ _ _ _ t1
  exact ⟨(x0, x1), ⟨[c0], [c1], rfl, k0, k1⟩, q0, q1⟩
theorem opens_struct3 {t : TypeId} {f0 f1 f2 : Field} {α0 α1 α2 : Type} {d0 : Kd α0} {d1 : Kd α1} {d2 : Kd α2} {w0 : α0 → Prop} {w1 : α1 → Prop} {w2 : α2 → Prop} (ht : P.underlying t = some (.struct #[f0, f1, f2])) (hone : oneCellFields P #[f0, f1, f2] = true) (hC : P.cellsOf t = 3)
    (h0 : Opens P f0.type d0 w0) (h1 : Opens P f1.type d1 w1) (h2 : Opens P f2.type d2 w2) : Opens P t (Kd.pair d0 (Kd.pair d1 d2)) (fun x => w0 x.1 ∧ w1 x.2.1 ∧ w2 x.2.2) := by
  intro H enc w base spare held n cs y h
  obtain ⟨hl, n', hf⟩ := struct_cells ht hone h
  obtain ⟨c0, c1, c2, rfl⟩ := list3 (hl.trans hC)
  obtain ⟨z0, t0⟩ := hf 0 f0 c0 rfl rfl
  obtain ⟨z1, t1⟩ := hf 1 f1 c1 rfl rfl
  obtain ⟨z2, t2⟩ := hf 2 f2 c2 rfl rfl
  obtain ⟨x0, k0, q0⟩ := h0 _ _ _ _ _ _ _ _ _ t0
  obtain ⟨x1, k1, q1⟩ := h1 _ _ _ _ _ _ _ _ _ t1
  obtain ⟨x2, k2, q2⟩ := h2 _ _ _ _ _ _ _ _ _ t2
  exact ⟨(x0, x1, x2), ⟨[c0], [c1, c2], rfl, k0, [c1], [c2], rfl, k1, k2⟩, q0, q1, q2⟩
theorem opens_struct4 {t : TypeId} {f0 f1 f2 f3 : Field} {α0 α1 α2 α3 : Type} {d0 : Kd α0} {d1 : Kd α1} {d2 : Kd α2} {d3 : Kd α3} {w0 : α0 → Prop} {w1 : α1 → Prop} {w2 : α2 → Prop} {w3 : α3 → Prop} (ht : P.underlying t = some (.struct #[f0, f1, f2, f3])) (hone : oneCellFields P #[f0, f1, f2, f3] = true) (hC : P.cellsOf t = 4)
    (h0 : Opens P f0.type d0 w0) (h1 : Opens P f1.type d1 w1) (h2 : Opens P f2.type d2 w2) (h3 : Opens P f3.type d3 w3) : Opens P t (Kd.pair d0 (Kd.pair d1 (Kd.pair d2 d3))) (fun x => w0 x.1 ∧ w1 x.2.1 ∧ w2 x.2.2.1 ∧ w3 x.2.2.2) := by
  intro H enc w base spare held n cs y h
  obtain ⟨hl, n', hf⟩ := struct_cells ht hone h
  obtain ⟨c0, c1, c2, c3, rfl⟩ := list4 (hl.trans hC)
  obtain ⟨z0, t0⟩ := hf 0 f0 c0 rfl rfl
  obtain ⟨z1, t1⟩ := hf 1 f1 c1 rfl rfl
  obtain ⟨z2, t2⟩ := hf 2 f2 c2 rfl rfl
  obtain ⟨z3, t3⟩ := hf 3 f3 c3 rfl rfl
  obtain ⟨x0, k0, q0⟩ := h0 _ _ _ _ _ _ _ _ _ t0
  obtain ⟨x1, k1, q1⟩ := h1 _ _ _ _ _ _ _ _ _ t1
  obtain ⟨x2, k2, q2⟩ := h2 _ _ _ _ _ _ _ _ _ t2
  obtain ⟨x3, k3, q3⟩ := h3 _ _ _ _ _ _ _ _ _ t3
  exact ⟨(x0, x1, x2, x3), ⟨[c0], [c1, c2, c3], rfl, k0, [c1], [c2, c3], rfl, k1, [c2], [c3], rfl, k2, k3⟩, q0, q1, q2, q3⟩
theorem opens_struct5 {t : TypeId} {f0 f1 f2 f3 f4 : Field} {α0 α1 α2 α3 α4 : Type} {d0 : Kd α0} {d1 : Kd α1} {d2 : Kd α2} {d3 : Kd α3} {d4 : Kd α4} {w0 : α0 → Prop} {w1 : α1 → Prop} {w2 : α2 → Prop} {w3 : α3 → Prop} {w4 : α4 → Prop} (ht : P.underlying t = some (.struct #[f0, f1, f2, f3, f4])) (hone : oneCellFields P #[f0, f1, f2, f3, f4] = true) (hC : P.cellsOf t = 5)
    (h0 : Opens P f0.type d0 w0) (h1 : Opens P f1.type d1 w1) (h2 : Opens P f2.type d2 w2) (h3 : Opens P f3.type d3 w3) (h4 : Opens P f4.type d4 w4) : Opens P t (Kd.pair d0 (Kd.pair d1 (Kd.pair d2 (Kd.pair d3 d4)))) (fun x => w0 x.1 ∧ w1 x.2.1 ∧ w2 x.2.2.1 ∧ w3 x.2.2.2.1 ∧ w4 x.2.2.2.2) := by
  intro H enc w base spare held n cs y h
  obtain ⟨hl, n', hf⟩ := struct_cells ht hone h
  obtain ⟨c0, c1, c2, c3, c4, rfl⟩ := list5 (hl.trans hC)
  obtain ⟨z0, t0⟩ := hf 0 f0 c0 rfl rfl
  obtain ⟨z1, t1⟩ := hf 1 f1 c1 rfl rfl
  obtain ⟨z2, t2⟩ := hf 2 f2 c2 rfl rfl
  obtain ⟨z3, t3⟩ := hf 3 f3 c3 rfl rfl
  obtain ⟨z4, t4⟩ := hf 4 f4 c4 rfl rfl
  obtain ⟨x0, k0, q0⟩ := h0 _ _ _ _ _ _ _ _ _ t0
  obtain ⟨x1, k1, q1⟩ := h1 _ _ _ _ _ _ _ _ _ t1
  obtain ⟨x2, k2, q2⟩ := h2 _ _ _ _ _ _ _ _ _ t2
  obtain ⟨x3, k3, q3⟩ := h3 _ _ _ _ _ _ _ _ _ t3
  obtain ⟨x4, k4, q4⟩ := h4 _ _ _ _ _ _ _ _ _ t4
  exact ⟨(x0, x1, x2, x3, x4), ⟨[c0], [c1, c2, c3, c4], rfl, k0, [c1], [c2, c3, c4], rfl, k1, [c2], [c3, c4], rfl, k2, [c3], [c4], rfl, k3, k4⟩, q0, q1, q2, q3, q4⟩
theorem opens_struct6 {t : TypeId} {f0 f1 f2 f3 f4 f5 : Field} {α0 α1 α2 α3 α4 α5 : Type} {d0 : Kd α0} {d1 : Kd α1} {d2 : Kd α2} {d3 : Kd α3} {d4 : Kd α4} {d5 : Kd α5} {w0 : α0 → Prop} {w1 : α1 → Prop} {w2 : α2 → Prop} {w3 : α3 → Prop} {w4 : α4 → Prop} {w5 : α5 → Prop} (ht : P.underlying t = some (.struct #[f0, f1, f2, f3, f4, f5])) (hone : oneCellFields P #[f0, f1, f2, f3, f4, f5] = true) (hC : P.cellsOf t = 6)
    (h0 : Opens P f0.type d0 w0) (h1 : Opens P f1.type d1 w1) (h2 : Opens P f2.type d2 w2) (h3 : Opens P f3.type d3 w3) (h4 : Opens P f4.type d4 w4) (h5 : Opens P f5.type d5 w5) :
    Opens P t (Kd.pair d0 (Kd.pair d1 (Kd.pair d2 (Kd.pair d3 (Kd.pair d4 d5))))) (fun x => w0 x.1 ∧ w1 x.2.1 ∧ w2 x.2.2.1 ∧ w3 x.2.2.2.1 ∧ w4 x.2.2.2.2.1 ∧ w5 x.2.2.2.2.2) := by
  intro H enc w base spare held n cs y h
  obtain ⟨hl, n', hf⟩ := struct_cells ht hone h
  obtain ⟨c0, c1, c2, c3, c4, c5, rfl⟩ := list6 (hl.trans hC)
  obtain ⟨z0, t0⟩ := hf 0 f0 c0 rfl rfl
  obtain ⟨z1, t1⟩ := hf 1 f1 c1 rfl rfl
  obtain ⟨z2, t2⟩ := hf 2 f2 c2 rfl rfl
  obtain ⟨z3, t3⟩ := hf 3 f3 c3 rfl rfl
  obtain ⟨z4, t4⟩ := hf 4 f4 c4 rfl rfl
  obtain ⟨z5, t5⟩ := hf 5 f5 c5 rfl rfl
  obtain ⟨x0, k0, q0⟩ := h0 _ _ _ _ _ _ _ _ _ t0
  obtain ⟨x1, k1, q1⟩ := h1 _ _ _ _ _ _ _ _ _ t1
  obtain ⟨x2, k2, q2⟩ := h2 _ _ _ _ _ _ _ _ _ t2
  obtain ⟨x3, k3, q3⟩ := h3 _ _ _ _ _ _ _ _ _ t3
  obtain ⟨x4, k4, q4⟩ := h4 _ _ _ _ _ _ _ _ _ t4
  obtain ⟨x5, k5, q5⟩ := h5 _ _ _ _ _ _ _ _ _ t5
  exact ⟨(x0, x1, x2, x3, x4, x5), ⟨[c0], [c1, c2, c3, c4, c5], rfl, k0, [c1], [c2, c3, c4, c5], rfl, k1, [c2], [c3, c4, c5], rfl, k2, [c3], [c4, c5], rfl, k3, [c4], [c5], rfl, k4, k5⟩, q0, q1, q2, q3, q4, q5⟩
/-- The same under another name of the data: 'Kd.iso'. -/
theorem opens_iso {β : Type} {f : β → α} {g : α → β} (hfg : ∀ x, f (g x) = x) {t : TypeId} (ho : Opens P t d wf) : Opens P t (Kd.iso d f) (fun x => wf (f x)) := by
  intro H enc w base spare held n cs y h
  obtain ⟨x, hK, hw⟩ := ho _ _ _ _ _ _ _ _ _ h
  refine ⟨g x, ?_, ?_⟩
  · show d.K w (f (g x)) cs
    rw [hfg]
    exact hK
  · show wf (f (g x))
    rw [hfg]
    exact hw
theorem opens_wf {wf' : α → Prop} {t : TypeId} (ho : Opens P t d wf) (hw : ∀ x, wf x → wf' x) : Opens P t d wf' := by
  intro H enc w base spare held n cs y h
  obtain ⟨x, hK, h1⟩ := ho _ _ _ _ _ _ _ _ _ h
  exact ⟨x, hK, hw x h1⟩
/-- A parameter: its cells, and what they are of. -/
theorem opened {H : Type} {enc : TypeId × Value → H} {W : World} {base : Nat} {spare : Nat → Bool} {held : Bool} {t : TypeId} {v : Value} {y : DataW H} {p : List MemPlace} (ho : Opens P t d wf) (h : DataW.Trod enc P W base spare held t v y p) : ∃ x, d.K W x v.cells.toList ∧ wf x := by
  obtain ⟨n, hn⟩ := h
  exact ho _ _ _ _ _ _ _ _ _ hn
theorem agg_cells {cs : Array Value} {l : List Value} (h : (Value.agg cs).cells.toList = l) : Value.agg cs = .agg l.toArray := by
  rw [← h]
  simp [Value.cells]
end
end Go.Proofs.Ytjkhmagnlaijhaa.Open
