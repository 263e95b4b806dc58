/- Marks as arguments. -/
import Derived.Test.YtjhmfljlclajnaaLists
import Derived.Test.YtjhmfljlclajnaaReads
namespace Go.Proofs.Ytjhmfljlclajnaa
open Go.ChangeShapes Go.WideShapes Go.ChangeAt Go.RowKit Go.Joins Wb
set_option maxRecDepth 100000
instance : Inhabited Tag := ⟨⟨0, false⟩⟩
section
variable {H : Type} {enc : TypeId × Value → H} {W : World} {base : Nat}
theorem read_ints {fuel : Nat} {cs : List Value} {x : DataW H × List MemPlace} (h : DataW.trod enc Try.prog W 0 (fun _ => true) true fuel 25 cs = some x) :
    ∃ (v : Value) (l : List Int), cs = [v] ∧ RL intC W v l ∧ ((x.1 = .nil ∧ l = []) ∨ ∃ el sp, x.1 = .slice el sp ∧ el.length = l.length) :=
  read_RL (c := 1) (fun _ => rfl) (by decide) Try.underlying25 (by kernel_rfl) (fun n cs' y hy _ => by
    obtain ⟨a, rfl, _⟩ := DataW.trod_int Try.underlying3 hy
    exact ⟨a, rfl⟩) h
theorem read_tags {fuel : Nat} {cs : List Value} {x : DataW H × List MemPlace} (h : DataW.trod enc Try.prog W 0 (fun _ => true) true fuel 41 cs = some x) :
    ∃ (v : Value) (l : List Tag), cs = [v] ∧ RL tagC W v l ∧ ((x.1 = .nil ∧ l = []) ∨ ∃ el sp, x.1 = .slice el sp ∧ el.length = l.length) :=
  read_RL (c := 2) (fun _ => rfl) (by decide) Try.underlying41 (by kernel_rfl) (fun n cs' y hy hlen => by
    obtain ⟨y0, y1, n, _, _, h0, h1⟩ := trod_struct2 Try.underlying75 hy
    match cs', hlen with
    | [u0, u1], _ =>
      have h0 : DataW.trod enc Try.prog W 0 (fun _ => true) true n 3 [u0] = some y0 := h0
      have h1 : DataW.trod enc Try.prog W 0 (fun _ => true) true n 4 [u1] = some y1 := h1
      obtain ⟨a, e0, _⟩ := DataW.trod_int Try.underlying3 h0
      obtain ⟨b, e1, _⟩ := DataW.trod_bool Try.underlying4 h1
      simp at e0 e1
      subst e0 e1
      exact ⟨⟨a, b⟩, rfl⟩) h
theorem read_mark {v : Value} {d : DataW H} {p : List MemPlace} (hv : Value.okWide Try.prog W .any base 43 v)
    (h : DataW.Trod enc Try.prog W 0 (fun _ => true) true 43 v d p) (hw : (d.weights Try.prog 43).all (· ≤ reachBytes) = true) : ∃ m : Mrk, RMark W v m := by
  obtain ⟨cs, rfl, hsz⟩ := okWide_struct Try.underlying43 hv
  obtain ⟨fuel, hf⟩ := h
  obtain ⟨xs, n, _, hx, hl, hlen, hg⟩ := DataW.trod_struct Try.underlying43 hf
  have hsz' : cs.size = 5 := hsz.trans (by kernel_rfl)
  obtain ⟨ls⟩ := cs
  match ls, hsz', xs, hlen with
  | [u0, u1, u2, u3, u4], _, [y0, y1, y2, y3, y4], _ =>
    have h0 : DataW.trod enc Try.prog W 0 (fun _ => true) true n 3 [u0] = some y0 := hg 0 _ rfl
    have h1 : DataW.trod enc Try.prog W 0 (fun _ => true) true n 3 [u1] = some y1 := hg 1 _ rfl
    have h2 : DataW.trod enc Try.prog W 0 (fun _ => true) true n 3 [u2] = some y2 := hg 2 _ rfl
    have h3 : DataW.trod enc Try.prog W 0 (fun _ => true) true n 41 [u3] = some y3 := hg 3 _ rfl
    have h4 : DataW.trod enc Try.prog W 0 (fun _ => true) true n 25 [u4] = some y4 := hg 4 _ rfl
    obtain ⟨a, e0, _⟩ := DataW.trod_int Try.underlying3 h0
    obtain ⟨b, e1, _⟩ := DataW.trod_int Try.underlying3 h1
    obtain ⟨c, e2, _⟩ := DataW.trod_int Try.underlying3 h2
    obtain ⟨v3, tags, e3, r3, d3⟩ := read_tags h3
    obtain ⟨v4, blks, e4, r4, d4⟩ := read_ints h4
    simp only [List.cons.injEq, and_true] at e0 e1 e2 e3 e4
    subst e0 e1 e2 e3 e4
    simp only [Prod.mk.injEq] at hx
    obtain ⟨rfl, _⟩ := hx
    have hw2 : (DataW.weightsEach Try.prog [3, 3, 3, 41, 25] [y0.1, y1.1, y2.1, y3.1, y4.1]).all (· ≤ reachBytes) = true := by
      simpa [DataW.weights, Try.underlying43] using hw
    have b3 : Try.prog.bytesOf 75 = 16 := by kernel_rfl
    have b4 : Try.prog.bytesOf 3 = 8 := by kernel_rfl
    refine ⟨⟨a, b, c, tags, blks⟩, _, _, rfl, r3, r4, ?_, ?_⟩
    · rcases d3 with ⟨_, rfl⟩ | ⟨el, sp, hy, hel⟩
      · simp
      · have := sized_slice hw2 (j := 3) rfl (by simp [hy]; exact ⟨rfl, rfl⟩) Try.underlying41
        rw [b3] at this
        unfold reachBytes at this
        dsimp only
        omega
    · rcases d4 with ⟨_, rfl⟩ | ⟨el, sp, hy, hel⟩
      · simp
      · have := sized_slice hw2 (j := 4) rfl (by simp [hy]; exact ⟨rfl, rfl⟩) Try.underlying25
        rw [b4] at this
        unfold reachBytes at this
        dsimp only
        omega
end
end Go.Proofs.Ytjhmfljlclajnaa
