/- Slices of the arguments, as lists. No program in sight. -/
import Derived.Test.YtjhmfljlclajnaaBase
import Derived.Lib.SmallJoins
import Derived.SizedLaws
namespace Wb
open Go Go.ChangeShapes Go.WideShapes Go.ChangeAt Go.RowKit Go.Joins Go.Deep
theorem flat_at {α : Type} {f : α → List Value} {c : Nat} (hf : ∀ x, (f x).length = c) : ∀ (l : List α) (j : Nat) (u : Value), (l.flatMap f)[j]? = some u → ∃ i x r, l[i]? = some x ∧ j = i * c + r ∧ (f x)[r]? = some u ∧ r < c
  | [], j, u, h => by simp at h
  | y :: l, j, u, h => by
    rw [List.flatMap_cons] at h
    by_cases hj : j < c
    · rw [List.getElem?_append_left (by rw [hf]; exact hj)] at h
      exact ⟨0, y, j, rfl, by omega, h, hj⟩
    · rw [List.getElem?_append_right (by rw [hf]; omega), hf] at h
      obtain ⟨i, x, r, h1, h2, h3, h4⟩ := flat_at hf l _ u h
      exact ⟨i + 1, x, r, by simpa using h1, by rw [Nat.succ_mul]; omega, h3, h4⟩
section
variable {H : Type} {enc : TypeId × Value → H} {P : Program} {w : World} {base : Nat} {spare : Nat → Bool} {held : Bool}
theorem read_RL {α : Type} [Inhabited α] {f : α → List Value} {c : Nat} (hf : ∀ x, (f x).length = c) (h0 : 0 < c) {t e : TypeId} {fuel : Nat} {cs : List Value} {x : DataW H × List MemPlace} (ht : P.underlying t = some (.slice e)) (hc : P.cellsOf e = c)
    (hread : ∀ n cs' y, DataW.trod enc P w base spare held n e cs' = some y → cs'.length = c → ∃ x : α, cs' = f x) (h : DataW.trod enc P w base spare held fuel t cs = some x) :
    ∃ (v : Value) (l : List α), cs = [v] ∧ RL f w v l ∧ ((x.1 = .nil ∧ l = []) ∨ ∃ el sp, x.1 = .slice el sp ∧ el.length = l.length) := by
  rcases open_slice ht h with ⟨rfl, rfl⟩ | ⟨a, len, cap, m, n, D, Pl, rfl, hb, hl, hm, hmm, rfl, hx⟩
  · exact ⟨_, [], rfl, RL.nil f w, .inl ⟨rfl, rfl⟩⟩
  have hlm : len ≤ m := by rw [hmm]; split <;> omega
  have each : ∀ i, i < len → ∃ x : α, ∀ r, r < c → w.cell? (a.add (i * c + r)) = (f x)[r]? := by
    intro i hi
    obtain ⟨cs', h1, h2⟩ := hx i (by omega)
    rw [hc] at h1
    obtain ⟨_, hlen, hcell⟩ := World.cells?_some h1
    obtain ⟨x, rfl⟩ := hread _ _ _ h2 hlen
    exact ⟨x, fun r hr => by have := hcell r hr; rwa [add_add] at this⟩
  obtain ⟨X, hX⟩ := choose_lt each
  refine ⟨_, (List.range len).map X, rfl, ?_, .inr ⟨_, _, rfl, by simp⟩⟩
  refine ⟨some a, cap, by simp, by simpa using hl, hm, ?_⟩
  by_cases hlen : len = 0
  · subst hlen; left; rfl
  right
  have hspot : a.spot = none := by
    have h1 := hX 0 (by omega) 0 h0
    have h2 : (f (X 0))[0]? ≠ none := by rw [Ne, List.getElem?_eq_none_iff, hf]; omega
    obtain ⟨u, hu⟩ := Option.ne_none_iff_exists'.1 h2
    rw [hu] at h1
    simpa [Addr.add] using World.cell?_spot h1
  obtain ⟨b, off, spot⟩ := a
  obtain rfl : spot = none := hspot
  refine ⟨b, off, rfl, fun j u hj => ?_⟩
  obtain ⟨i, x, r, h1, rfl, h3, h4⟩ := flat_at hf _ _ _ hj
  rw [List.getElem?_map, Option.map_eq_some_iff] at h1
  obtain ⟨k, hk, rfl⟩ := h1
  obtain ⟨hkl, rfl⟩ := List.getElem?_eq_some_iff.1 hk
  simp only [List.length_range] at hkl
  simp only [List.getElem_range] at h3
  have := hX i hkl r h4
  rw [h3, Addr.add_lit] at this
  exact this
end
end Wb
