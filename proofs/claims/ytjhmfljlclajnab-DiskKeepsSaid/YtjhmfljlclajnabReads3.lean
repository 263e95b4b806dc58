/- Disks as arguments. -/
import Derived.Test.YtjhmfljlclajnabLists
import Derived.Test.YtjhmfljlclajnabReads
import Derived.Test.YtjhmfljlclajnabRows
import Derived.Test.YtjhmfljlclajnabDskP
namespace Go.Proofs.Ytjhmfljlclajnab
open Go.ChangeShapes Go.WideShapes Go.ChangeAt Go.RowKit Go.Joins Wb
set_option maxRecDepth 100000
section
variable {H : Type} {enc : TypeId × Value → H} {W : World} {base : Nat}
theorem read_strs {fuel : Nat} {cs : List Value} {x : DataW H × List MemPlace} (h : DataW.trod enc Try.prog W 0 (fun _ => true) true fuel 22 cs = some x) :
    ∃ (v : Value) (l : List ByteArray), cs = [v] ∧ RL strC W v l ∧ ((x.1 = .nil ∧ l = []) ∨ ∃ el sp, x.1 = .slice el sp ∧ el.length = l.length) :=
  read_RL (c := 1) (fun _ => rfl) (by decide) Try.underlying22 (by kernel_rfl) (fun n cs' y hy _ => by
    obtain ⟨a, rfl, _⟩ := DataW.trod_string Try.underlying9 hy
    exact ⟨a, rfl⟩) h
theorem read_writes {fuel : Nat} {cs : List Value} {x : DataW H × List MemPlace} (h : DataW.trod enc Try.prog W 0 (fun _ => true) true fuel 23 cs = some x) :
    ∃ (v : Value) (l : List Wr), cs = [v] ∧ RL wrC W v l ∧ ((x.1 = .nil ∧ l = []) ∨ ∃ el sp, x.1 = .slice el sp ∧ el.length = l.length) :=
  read_RL (c := 2) (fun _ => rfl) (by decide) Try.underlying23 (by kernel_rfl) (fun n cs' y hy hlen => by
    obtain ⟨y0, y1, n, _, _, h0, h1⟩ := trod_struct2 Try.underlying48 hy
    match cs', hlen with
    | [u0, u1], _ =>
      have h0 : DataW.trod enc Try.prog W 0 (fun _ => true) true n 3 [u0] = some y0 := h0
      have h1 : DataW.trod enc Try.prog W 0 (fun _ => true) true n 9 [u1] = some y1 := h1
      obtain ⟨a, e0, _⟩ := DataW.trod_int Try.underlying3 h0
      obtain ⟨b, e1, _⟩ := DataW.trod_string Try.underlying9 h1
      simp at e0 e1
      subst e0 e1
      exact ⟨⟨a, b⟩, rfl⟩) h
theorem read_disk {v : Value} {d : DataW H} {p : List MemPlace} (hv : Value.okWide Try.prog W .any base 25 v)
    (h : DataW.Trod enc Try.prog W 0 (fun _ => true) true 25 v d p) (hw : (d.weights Try.prog 25).all (· ≤ reachBytes) = true) : ∃ m : Dsk, RDisk W v m := by
  obtain ⟨cs, rfl, hsz⟩ := okWide_struct Try.underlying25 hv
  obtain ⟨fuel, hf⟩ := h
  obtain ⟨xs, n, _, hx, hl, hlen, hg⟩ := DataW.trod_struct Try.underlying25 hf
  have hsz' : cs.size = 2 := hsz.trans (by kernel_rfl)
  obtain ⟨ls⟩ := cs
  match ls, hsz', xs, hlen with
  | [u0, u1], _, [y0, y1], _ =>
    have h0 : DataW.trod enc Try.prog W 0 (fun _ => true) true n 22 [u0] = some y0 := hg 0 _ rfl
    have h1 : DataW.trod enc Try.prog W 0 (fun _ => true) true n 23 [u1] = some y1 := hg 1 _ rfl
    obtain ⟨v0, safe, e0, r0, d0⟩ := read_strs h0
    obtain ⟨v1, writes, e1, r1, d1⟩ := read_writes h1
    simp only [List.cons.injEq, and_true] at e0 e1
    subst e0 e1
    simp only [Prod.mk.injEq] at hx
    obtain ⟨rfl, _⟩ := hx
    have hw2 : (DataW.weightsEach Try.prog [22, 23] [y0.1, y1.1]).all (· ≤ reachBytes) = true := by
      simpa [DataW.weights, Try.underlying25] using hw
    have b0 : Try.prog.bytesOf 9 = 16 := by kernel_rfl
    have b1 : Try.prog.bytesOf 48 = 24 := by kernel_rfl
    refine ⟨⟨safe, writes⟩, _, _, rfl, r0, r1, ?_, ?_⟩
    · rcases d0 with ⟨_, rfl⟩ | ⟨el, sp, hy, hel⟩
      · simp
      · have := sized_slice hw2 (j := 0) rfl (by simp [hy]; exact ⟨rfl, rfl⟩) Try.underlying22
        rw [b0] at this
        unfold reachBytes at this
        dsimp only
        omega
    · rcases d1 with ⟨_, rfl⟩ | ⟨el, sp, hy, hel⟩
      · simp
      · have := sized_slice hw2 (j := 1) rfl (by simp [hy]; exact ⟨rfl, rfl⟩) Try.underlying23
        rw [b1] at this
        unfold reachBytes at this
        dsimp only
        omega
end
end Go.Proofs.Ytjhmfljlclajnab
