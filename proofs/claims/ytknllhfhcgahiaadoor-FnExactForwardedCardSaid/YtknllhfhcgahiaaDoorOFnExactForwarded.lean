import Derived.Test.YtknllhfhcgahiaaDoorTFnExactForwardeda
import Derived.Lib.SmallJoins
import Derived.ChangeArms
import Derived.Deep.Slices
/- What a printed kind reads, opened out of the argument as the row hands it over: no condition. -/
namespace Go.Proofs.YtknllhfhcgahiaaDoorW.PrintWords
open Go.ChangeShapes Go.WideShapes Go.RowKit Go.Deep Go.WideElems Go.Maps Go.Joins
structure Opens (P : Program) {α : Type} (d : Kd α) (t : TypeId) (wf : α → Prop) : Prop where
  size : P.cellsOf t = d.sz
  opens : ∀ {H : Type} {enc : TypeId × Value → H} {w : World} {base : Nat} {spare : Nat → Bool} {held : Bool} {fuel : Nat} {cs : List Value} {y : DataW H × List MemPlace}, DataW.trod enc P w base spare held fuel t cs = some y → ∃ x, d.K w x cs ∧ wf x
namespace Opens
variable {P : Program} {t e : TypeId}
theorem int {k : IntKind} (ht : P.underlying t = some (.int k)) (hc : P.cellsOf t = 1) : Opens P (Kd.int k) t (fun n => (Lit.int k n).wf = true) :=
  ⟨hc, fun h => by
    obtain ⟨n, rfl, _, hw⟩ := DataW.trod_int ht h
    exact ⟨n, rfl, hw⟩⟩
theorem bool (ht : P.underlying t = some .bool) (hc : P.cellsOf t = 1) : Opens P Kd.bool t (fun _ => True) :=
  ⟨hc, fun h => by
    obtain ⟨n, rfl, _⟩ := DataW.trod_bool ht h
    exact ⟨n, rfl, trivial⟩⟩
theorem string (ht : P.underlying t = some .string) (hc : P.cellsOf t = 1) : Opens P Kd.string t (fun s => s.size ≤ maxLen) :=
  ⟨hc, fun h => by
    obtain ⟨n, rfl, _, hw⟩ := DataW.trod_string ht h
    exact ⟨n, rfl, hw⟩⟩
theorem slice {α : Type} {d : Kd α} {wf : α → Prop} (o : Opens P d e wf) (ht : P.underlying t = some (.slice e)) (hc : P.cellsOf t = 1) : Opens P (Kd.slice e d) t (fun xs => xs.length ≤ maxLen ∧ ∀ x ∈ xs, wf x) :=
  ⟨hc, fun {H enc w base spare held fuel cs y} h => by
    rcases open_slice ht h with ⟨rfl, _⟩ | ⟨a, len, cap, m, n, D, Pl, rfl, _, hl, hm, hmm, hy, hx⟩
    · exact ⟨[], ⟨none, 0, rfl, Nat.le_refl _, rfl, by simp, fun h0 => absurd h0 (by simp)⟩, by simp [maxLen], by simp⟩
    · have hlm : len ≤ m := by rw [hmm]; split <;> omega
      have hx' : ∀ i, i < len → ∃ x : α, ∃ c, w.cells? base (a.add (i * d.sz)) d.sz = some c ∧ d.K w x c ∧ wf x := by
        intro i hi
        obtain ⟨c, h1, h2⟩ := hx i (by omega)
        obtain ⟨x, h3, h4⟩ := o.opens h2
        rw [o.size] at h1
        exact ⟨x, c, h1, h3, h4⟩
      obtain ⟨X, hX⟩ : ∃ X : List α, X.length = len ∧ ∀ i x, X[i]? = some x → ∃ c, w.cells? base (a.add (i * d.sz)) d.sz = some c ∧ d.K w x c ∧ wf x := by
        clear hmm hlm hx h hy
        induction len with
        | zero => exact ⟨[], rfl, fun i x h => by simp at h⟩
        | succ len ih =>
          obtain ⟨X, h1, h2⟩ := ih (by omega) (fun i hi => hx' i (by omega))
          obtain ⟨x, hx1⟩ := hx' len (by omega)
          refine ⟨X ++ [x], by simp [h1], fun i z hz => ?_⟩
          by_cases hi : i < X.length
          · rw [List.getElem?_append_left hi] at hz; exact h2 i z hz
          · rw [List.getElem?_append_right (by omega)] at hz
            have : i = len := by
              have := (List.getElem?_eq_some_iff.1 hz).1
              simp at this; omega
            subst this
            rw [h1, Nat.sub_self] at hz
            obtain rfl : x = z := by simpa using hz
            exact hx1
      obtain ⟨hXl, hX⟩ := hX
      refine ⟨X, ⟨some a, cap, by rw [hXl], by omega, rfl, by rw [hXl]; have := hm; unfold maxLen at this; omega, fun _ => ⟨a, rfl, fun j p hj => ?_⟩⟩, by omega, fun x hx => ?_⟩
      · obtain ⟨c, h1, h2, _⟩ := hX j p hj
        obtain ⟨_, hlen, hcell⟩ := World.cells?_some h1
        refine ⟨c, hlen, h2, fun i u hu => ?_⟩
        have hi : i < d.sz := by have := (List.getElem?_eq_some_iff.1 hu).1; omega
        rw [← hu, ← hcell i hi]
        congr 1
        simp only [Addr.add]
        by_cases z1 : i = 0
        · simp [z1]
        · by_cases z2 : j * d.sz = 0
          · simp [z1, z2]
          · simp only [if_neg z1, if_neg z2, if_neg (show ¬ j * d.sz + i = 0 by omega), Nat.add_assoc]
      · obtain ⟨j, hj, rfl⟩ := List.getElem_of_mem hx
        obtain ⟨_, _, _, h4⟩ := hX j _ (List.getElem?_eq_getElem hj)
        exact h4⟩
theorem take0 (cs : List Value) (n : Nat) : (cs.drop 0).take n = cs.take n := by simp
theorem split2 {cs : List Value} {a b : Nat} (h : cs.length = a + b) : cs = cs.take a ++ (cs.drop a).take b := by
  rw [List.take_of_length_le (l := cs.drop a) (by simp; omega), List.take_append_drop]
theorem split3 {cs : List Value} {a b c : Nat} (h : cs.length = a + (b + c)) : cs = cs.take a ++ ((cs.drop a).take b ++ (cs.drop (a + b)).take c) := by
  have e : (cs.drop a).take b ++ (cs.drop (a + b)).take c = (cs.drop a).take (b + c) := by
    have := split2 (cs := cs.drop a) (a := b) (b := c) (by simp; omega)
    rw [List.drop_drop] at this
    rw [← this, List.take_of_length_le (by simp; omega)]
  rw [e]; exact split2 h
theorem struct2 {α β σ : Type} {d0 : Kd α} {d1 : Kd β} {w0 : α → Prop} {w1 : β → Prop} {f0 f1 : Field} {f : σ → α × β} (g : α × β → σ) (hg : ∀ x, f (g x) = x)
    (o0 : Opens P d0 f0.type w0) (o1 : Opens P d1 f1.type w1) (ht : P.underlying t = some (.struct #[f0, f1])) (hc : P.cellsOf t = d0.sz + d1.sz) (h0 : f0.offset = 0) (h1 : f1.offset = d0.sz) :
    Opens P (Kd.iso (Kd.pair d0 d1) f) t (fun x => w0 (f x).1 ∧ w1 (f x).2) :=
  ⟨hc, fun {H enc w base spare held fuel cs y} h => by
    obtain ⟨y0, y1, n, _, hl, t0, t1⟩ := trod_struct2 ht h
    rw [h0, o0.size, take0] at t0
    rw [h1, o1.size] at t1
    obtain ⟨x0, k0, v0⟩ := o0.opens t0
    obtain ⟨x1, k1, v1⟩ := o1.opens t1
    refine ⟨g (x0, x1), ?_, by rw [hg]; exact ⟨v0, v1⟩⟩
    show (Kd.pair d0 d1).K w (f (g (x0, x1))) cs
    rw [hg]
    exact ⟨_, _, split2 (hl.trans hc), k0, k1⟩⟩
theorem struct3 {α β γ σ : Type} {d0 : Kd α} {d1 : Kd β} {d2 : Kd γ} {w0 : α → Prop} {w1 : β → Prop} {w2 : γ → Prop} {f0 f1 f2 : Field} {f : σ → α × β × γ} (g : α × β × γ → σ) (hg : ∀ x, f (g x) = x)
    (o0 : Opens P d0 f0.type w0) (o1 : Opens P d1 f1.type w1) (o2 : Opens P d2 f2.type w2) (ht : P.underlying t = some (.struct #[f0, f1, f2])) (hc : P.cellsOf t = d0.sz + (d1.sz + d2.sz)) (h0 : f0.offset = 0) (h1 : f1.offset = d0.sz) (h2 : f2.offset = d0.sz + d1.sz) :
    Opens P (Kd.iso (Kd.pair d0 (Kd.pair d1 d2)) f) t (fun x => w0 (f x).1 ∧ w1 (f x).2.1 ∧ w2 (f x).2.2) :=
  ⟨hc, fun {H enc w base spare held fuel cs y} h => by
    obtain ⟨y0, y1, y2, n, _, hl, t0, t1, t2⟩ := trod_struct3 ht h
    rw [h0, o0.size, take0] at t0
    rw [h1, o1.size] at t1
    rw [h2, o2.size] at t2
    obtain ⟨x0, k0, v0⟩ := o0.opens t0
    obtain ⟨x1, k1, v1⟩ := o1.opens t1
    obtain ⟨x2, k2, v2⟩ := o2.opens t2
    refine ⟨g (x0, x1, x2), ?_, by rw [hg]; exact ⟨v0, v1, v2⟩⟩
    show (Kd.pair d0 (Kd.pair d1 d2)).K w (f (g (x0, x1, x2))) cs
    rw [hg]
    exact ⟨_, _, split3 (hl.trans hc), k0, ⟨_, _, rfl, k1, k2⟩⟩⟩
end Opens
end Go.Proofs.YtknllhfhcgahiaaDoorW.PrintWords
