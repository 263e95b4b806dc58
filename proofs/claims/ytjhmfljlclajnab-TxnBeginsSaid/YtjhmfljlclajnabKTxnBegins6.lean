/- What a walk keeps of memory: blocks known whole, readings, and what has not been touched. No program in sight. What the table of types says of the types that are laid into memory. The contract of pay, whole. The walks of package slices: DeleteFunc. What a function makes of a transaction's lists: each as it was, or in a row of its own. No program in sight. The walk of Change. -/
import Derived.Test.YtjhmfljlclajnabKTxnBegins1
import Derived.Deep.MidRow
import Derived.Test.YtjhmfljlclajnabChecked
import Derived.Test.YtjhmfljlclajnabKTxnBegins5
import Derived.Test.YtjhmfljlclajnabKTxnBegins2
import Derived.Test.YtjhmfljlclajnabKTxnBegins0
namespace Wb
open Go Go.RowKit
set_option linter.unusedVariables false
set_option linter.unusedSimpArgs false

/-- w' is w with new blocks; of the elder ones only those of S are written. -/
structure Mv (S : List Nat) (w w' : World) : Prop where
  os : w'.os = w.os
  tape : w'.tape = w.tape
  output : w'.output = w.output
  size : w.heap.size ≤ w'.heap.size
  block : ∀ k, k < w.heap.size → k ∉ S → w'.heap[k]? = w.heap[k]?
theorem Mv.refl (S : List Nat) (w : World) : Mv S w w := ⟨rfl, rfl, rfl, Nat.le_refl _, fun _ _ _ => rfl⟩
theorem Mv.below {w w' : World} (h : Mv [] w w') : Below w.heap.size w w' := ⟨h.os, h.tape, h.output, h.size, fun k hk => h.block k hk (by simp)⟩
theorem Mv.ofBelow {S : List Nat} {w w' : World} (h : Below w.heap.size w w') : Mv S w w' := ⟨h.os, h.tape, h.output, h.size, fun k hk _ => h.block k hk⟩
theorem Mv.ofGrown {g : Nat} {w w' : World} (h : w.grownBy w' (some g)) : Mv [g] w w' := ⟨h.os, h.tape, h.output, h.size, fun k hk hn => h.block k hk (by simpa using hn)⟩
theorem Mv.mono {S S' : List Nat} {w w' : World} (h : Mv S w w') (hs : ∀ k, k ∈ S → k ∈ S') : Mv S' w w' := ⟨h.os, h.tape, h.output, h.size, fun k hk hn => h.block k hk fun hh => hn (hs k hh)⟩
/-- One move behind another: what the second writes is of S or new to the first. -/
theorem Mv.then {S S' : List Nat} {a b c : World} (h : Mv S a b) (h2 : Mv S' b c) (hs : ∀ k, k ∈ S' → k ∈ S ∨ a.heap.size ≤ k) : Mv S a c :=
  ⟨h2.os.trans h.os, h2.tape.trans h.tape, h2.output.trans h.output, Nat.le_trans h.size h2.size, fun k hk hn =>
    (h2.block k (Nat.lt_of_lt_of_le hk h.size) fun hh => (hs k hh).elim hn (fun hh => by omega)).trans (h.block k hk hn)⟩
theorem Mv.trans {S : List Nat} {a b c : World} (h : Mv S a b) (h2 : Mv S b c) : Mv S a c := h.then h2 fun _ h => .inl h
theorem Mv.drew {S : List Nat} {a b : World} (h : Mv S a b) : Mv S a b.drew := ⟨h.os, h.tape, h.output, h.size, h.block⟩
theorem Mv.drewN {S : List Nat} {a b : World} (h : Mv S a b) (n : Nat) : Mv S a (b.drewN n) := ⟨h.os, h.tape, h.output, h.size, h.block⟩
theorem Mv.alloc (S : List Nat) (w : World) (o : Obj) : Mv S w (w.alloc o) := Mv.ofBelow (bal (b0 w) o)
theorem Mv.set (w : World) (p : Addr) (v : Value) : Mv [p.block] w (w.setCell p v) :=
  ⟨rfl, rfl, rfl, by simp, fun k _ hn => Below.heap_setCell w p v k (by simpa using hn)⟩
theorem Mv.sets (g : Nat) : ∀ (vs : List Value) (o : Nat) (w : World), Mv [g] w (w.setCells g o vs)
  | [], _, w => Mv.refl _ w
  | v :: r, o, w => (Mv.set w ⟨g, o, none⟩ v).trans (Mv.sets g r (o + 1) _)

/-- The block in which a slice lies. -/
def vblk : Value → Option Nat
  | .slice (some a) _ _ => some a.block
  | _ => none

theorem Sl.mv {S : List Nat} {w w' : World} {v : Value} {n : Nat} {cs : List Value} (h : Sl w v n cs) (hm : Mv S w w') (hn : cs = [] ∨ ∀ b, vblk v = some b → b ∉ S) : Sl w' v n cs := by
  obtain ⟨a, cap, hv, h1, h2, h3⟩ := h
  refine ⟨a, cap, hv, h1, h2, ?_⟩
  rcases hn with hn | hn
  · exact .inl hn
  rcases h3 with h3 | ⟨b, off, ha, hc⟩
  · exact .inl h3
  · refine .inr ⟨b, off, ha, fun j u hj => ?_⟩
    have h4 := hc j u hj
    have h5 := World.block_lt_of_cell? w _ h4
    rw [← h4]
    refine World.cell?_of_block (hm.block b h5 (hn b ?_))
    rw [hv, ha]; rfl
theorem Sl.lt {w : World} {v : Value} {n : Nat} {cs : List Value} (h : Sl w v n cs) : cs = [] ∨ ∀ b, vblk v = some b → b < w.heap.size := by
  obtain ⟨a, cap, hv, h1, h2, h3⟩ := h
  rcases h3 with h3 | ⟨b, off, ha, hc⟩
  · exact .inl h3
  · cases cs with
    | nil => exact .inl rfl
    | cons u r =>
      refine .inr fun b' hb => ?_
      rw [hv, ha] at hb
      cases hb
      exact World.block_lt_of_cell? w _ (hc 0 u rfl)

/-- A block that is known whole. -/
structure Ent where
  g : Nat
  cs : List Value
  t : TypeId
/-- A slice that is read. -/
structure Rd where
  v : Value
  n : Nat
  cs : List Value
def Rd.of {α : Type} (f : α → List Value) (v : Value) (l : List α) : Rd := ⟨v, l.length, l.flatMap f⟩
structure St (S : List Nat) (w0 w : World) (L : List Ent) (R : List Rd) : Prop where
  mv : Mv S w0 w
  nd : (L.map Ent.g).Nodup
  blk : ∀ e ∈ L, Blk w e.g e.cs.toArray e.t
  own : ∀ e ∈ L, e.g ∈ S ∨ w0.heap.size ≤ e.g
  rd : ∀ r ∈ R, Sl w r.v r.n r.cs ∧ (r.cs = [] ∨ ∀ b, vblk r.v = some b → ∀ e ∈ L, e.g ≠ b)

section
variable {S : List Nat} {w0 w w' : World} {L : List Ent} {R : List Rd}
theorem St.start (S : List Nat) (w0 : World) : St S w0 w0 [] [] := ⟨Mv.refl _ _, List.nodup_nil, (fun _ h => absurd h List.not_mem_nil), (fun _ h => absurd h List.not_mem_nil), (fun _ h => absurd h List.not_mem_nil)⟩
theorem St.drew (h : St S w0 w L R) : St S w0 w.drew L R := ⟨h.mv.drew, h.nd, h.blk, h.own, h.rd⟩
theorem St.drewN (h : St S w0 w L R) (n : Nat) : St S w0 (w.drewN n) L R := ⟨h.mv.drewN n, h.nd, h.blk, h.own, h.rd⟩
theorem St.below (h : St [] w0 w L R) : Below w0.heap.size w0 w := h.mv.below
theorem Blk.mv {b : Nat} {cs : Array Value} {t : TypeId} (h : Blk w b cs t) (hm : Mv S w w') (hn : b ∉ S) : Blk w' b cs t := (hm.block b h.lt hn).trans h
/-- A move that leaves the known blocks alone: a call that writes none of them. -/
theorem St.moved {S' : List Nat} (h : St S w0 w L R) (hm : Mv S' w w') (hs : ∀ k, k ∈ S' → k ∈ S ∨ w0.heap.size ≤ k) (hL : ∀ e ∈ L, e.g ∉ S') (hR : ∀ r ∈ R, r.cs = [] ∨ ∀ b, vblk r.v = some b → b ∉ S') : St S w0 w' L R :=
  ⟨h.mv.then hm hs, h.nd, fun e he => (h.blk e he).mv hm (hL e he), h.own, fun r hr => ⟨(h.rd r hr).1.mv hm (hR r hr), (h.rd r hr).2⟩⟩
/-- A call that only lays new blocks. -/
theorem St.call (h : St S w0 w L R) (hb : Below w.heap.size w w') : St S w0 w' L R :=
  h.moved (S' := []) (Mv.ofBelow hb) (fun _ h => absurd h List.not_mem_nil) (fun _ _ => List.not_mem_nil) (fun _ _ => .inr fun _ _ => List.not_mem_nil)
/-- A reading more: it lies in no known block. -/
theorem St.addR (h : St S w0 w L R) {v : Value} {n : Nat} {cs : List Value} (hv : Sl w v n cs) (hn : cs = [] ∨ ∀ b, vblk v = some b → ∀ e ∈ L, e.g ≠ b) : St S w0 w L (⟨v, n, cs⟩ :: R) :=
  ⟨h.mv, h.nd, h.blk, h.own, fun r hr => by
    rcases List.mem_cons.1 hr with rfl | hr
    · exact ⟨hv, hn⟩
    · exact h.rd r hr⟩
/-- A reading of the start. -/
theorem St.addR0 (h : St [] w0 w L R) {v : Value} {n : Nat} {cs : List Value} (hv : Sl w0 v n cs) : St [] w0 w L (⟨v, n, cs⟩ :: R) := by
  refine h.addR (hv.below h.below) ?_
  rcases hv.lt with hl | hl
  · exact .inl hl
  · refine .inr fun b hb e he heq => ?_
    have := hl b hb
    rcases h.own e he with ho | ho
    · cases ho
    · omega
/-- What a call hands back in a row of its own is read. -/
theorem St.addOwn (h : St S w0 w L R) (hb : Below w.heap.size w w') {α : Type} {f : α → List Value} {e : TypeId} {c : Nat} {v : Value} {l : List α} (ho : Own f w.heap.size e c w' v l) : St S w0 w' L (Rd.of f v l :: R) := by
  refine (h.call hb).addR ho.reads (.inr fun b hbv x hx heq => ?_)
  have hlt := (h.blk x hx).lt
  obtain ⟨_, h2⟩ := ho
  rcases h2 with ⟨rfl, _⟩ | ⟨g, cap, cur, rfl, hbg, _⟩
  · cases hbv
  · cases hbv
    have h3 : x.g = g := heq
    omega
theorem St.read (h : St S w0 w L R) {α : Type} {f : α → List Value} {v : Value} {l : List α} (hr : Rd.of f v l ∈ R) : RL f w v l := (h.rd _ hr).1
theorem St.at_ (h : St S w0 w L R) {g : Nat} {cs : List Value} {t : TypeId} (he : ⟨g, cs, t⟩ ∈ L) : Blk w g cs.toArray t := h.blk _ he
theorem St.cell (h : St S w0 w L R) {g : Nat} {cs : List Value} {t : TypeId} (he : ⟨g, cs, t⟩ ∈ L) (i : Nat) : w.cell? ⟨g, i, none⟩ = cs[i]? := by
  rw [(h.blk _ he).cell i]; simp
theorem St.free (h : St S w0 w L R) {g : Nat} {cs : List Value} {t : TypeId} (he : ⟨g, cs, t⟩ ∈ L) (i : Nat) : w.frozen? ⟨g, i, none⟩ = false := (h.blk _ he).free i
theorem St.k0 {g : Nat} {cs : List Value} {t : TypeId} (h : St S w0 w (⟨g, cs, t⟩ :: L) R) : Blk w g cs.toArray t := h.blk ⟨g, cs, t⟩ (by simp)
theorem St.k1 {e0 : Ent} {g : Nat} {cs : List Value} {t : TypeId} (h : St S w0 w (e0 :: ⟨g, cs, t⟩ :: L) R) : Blk w g cs.toArray t := h.blk ⟨g, cs, t⟩ (by simp)
theorem St.k2 {e0 e1 : Ent} {g : Nat} {cs : List Value} {t : TypeId} (h : St S w0 w (e0 :: e1 :: ⟨g, cs, t⟩ :: L) R) : Blk w g cs.toArray t := h.blk ⟨g, cs, t⟩ (by simp)
theorem St.k3 {e0 e1 e2 : Ent} {g : Nat} {cs : List Value} {t : TypeId} (h : St S w0 w (e0 :: e1 :: e2 :: ⟨g, cs, t⟩ :: L) R) : Blk w g cs.toArray t := h.blk ⟨g, cs, t⟩ (by simp)
theorem St.k4 {e0 e1 e2 e3 : Ent} {g : Nat} {cs : List Value} {t : TypeId} (h : St S w0 w (e0 :: e1 :: e2 :: e3 :: ⟨g, cs, t⟩ :: L) R) : Blk w g cs.toArray t := h.blk ⟨g, cs, t⟩ (by simp)
theorem St.r0 {α : Type} {f : α → List Value} {v : Value} {l : List α} (h : St S w0 w L (Rd.of f v l :: R)) : RL f w v l := h.read (v := v) (l := l) (f := f) (by simp)
theorem St.r1 {r0 : Rd} {α : Type} {f : α → List Value} {v : Value} {l : List α} (h : St S w0 w L (r0 :: Rd.of f v l :: R)) : RL f w v l := h.read (v := v) (l := l) (f := f) (by simp)
theorem St.r2 {r0 r1 : Rd} {α : Type} {f : α → List Value} {v : Value} {l : List α} (h : St S w0 w L (r0 :: r1 :: Rd.of f v l :: R)) : RL f w v l := h.read (v := v) (l := l) (f := f) (by simp)
/-- A new block. -/
theorem St.alloc (h : St S w0 w L R) (cs : List Value) (t : TypeId) : St S w0 (w.alloc (.cells cs.toArray t)) (⟨w.heap.size, cs, t⟩ :: L) R := by
  have h1 := h.call (bal (b0 w) (.cells cs.toArray t))
  refine ⟨h1.mv, ?_, fun e he => ?_, fun e he => ?_, fun r hr => ⟨(h1.rd r hr).1, ?_⟩⟩
  · rw [List.map_cons, List.nodup_cons]
    refine ⟨fun hm => ?_, h.nd⟩
    obtain ⟨e, he, heq⟩ := List.mem_map.1 hm
    have := (h.blk e he).lt
    simp only at heq; omega
  · rcases List.mem_cons.1 he with rfl | he
    · exact Blk.new w _ _
    · exact h1.blk e he
  · rcases List.mem_cons.1 he with rfl | he
    · exact .inr h.mv.size
    · exact h.own e he
  · rcases (h.rd r hr).1.lt with hl | hl
    · exact .inl hl
    · rcases (h.rd r hr).2 with h2 | h2
      · exact .inl h2
      · refine .inr fun b hb e he => ?_
        rcases List.mem_cons.1 he with rfl | he
        · have := hl b hb; show w.heap.size ≠ b; omega
        · exact h2 b hb e he
/-- The cells of a block, with others from a place on. -/
def upd : Nat → List Value → List Value → List Value
  | i + 1, vs, c :: cs => c :: upd i vs cs
  | 0, v :: vs, _ :: cs => v :: upd 0 vs cs
  | _, _, cs => cs
theorem upd_seg : ∀ (i : Nat) (vs cs : List Value), i + vs.length ≤ cs.length → upd i vs cs = cs.take i ++ vs ++ cs.drop (i + vs.length)
  | i + 1, vs, c :: cs, h => by
    have := upd_seg i vs cs (by simp at h; omega)
    simp only [upd, this, List.take_succ_cons, List.cons_append, List.cons.injEq, true_and]
    rw [show i + 1 + vs.length = (i + vs.length) + 1 by omega, List.drop_succ_cons]
  | 0, [], cs, h => by cases cs <;> simp [upd]
  | 0, v :: vs, c :: cs, h => by
    have := upd_seg 0 vs cs (by simp at h; omega)
    simp only [Nat.zero_add, List.take_zero, List.nil_append] at this
    simp [upd, this]
  | i + 1, vs, [], h => by simp at h
  | 0, v :: vs, [], h => by simp at h
theorem upd_len (i : Nat) (vs cs : List Value) (h : i + vs.length ≤ cs.length) : (upd i vs cs).length = cs.length := by
  rw [upd_seg i vs cs h]; simp; omega
/-- Cells of a known block are written. -/
theorem St.wrote (A B : List Ent) {g : Nat} {cs : List Value} {t : TypeId} (h : St S w0 w (A ++ ⟨g, cs, t⟩ :: B) R) (i : Nat) (vs : List Value) (hi : i + vs.length ≤ cs.length) : St S w0 (w.setCells g i vs) (A ++ ⟨g, upd i vs cs, t⟩ :: B) R := by
  have hm := Mv.sets g vs i w
  have hg : ⟨g, cs, t⟩ ∈ A ++ ⟨g, cs, t⟩ :: B := by simp
  have hnd := h.nd
  rw [List.map_append, List.map_cons, List.nodup_append] at hnd
  obtain ⟨n1, n2, n3⟩ := hnd
  rw [List.nodup_cons] at n2
  have hne : ∀ e, e ∈ A ∨ e ∈ B → e.g ≠ g := fun e he heq => by
    rcases he with he | he
    · exact n3 _ (List.mem_map_of_mem he) g (by simp) heq
    · have h5 := List.mem_map_of_mem (f := Ent.g) he
      rw [heq] at h5
      exact n2.1 h5
  have hsame : (A ++ ⟨g, upd i vs cs, t⟩ :: B).map Ent.g = (A ++ ⟨g, cs, t⟩ :: B).map Ent.g := by simp
  have hmem : ∀ e, e ∈ A ++ (⟨g, upd i vs cs, t⟩ : Ent) :: B → e = ⟨g, upd i vs cs, t⟩ ∨ ((e ∈ A ∨ e ∈ B) ∧ e ∈ A ++ (⟨g, cs, t⟩ : Ent) :: B) := fun e he => by
    simp only [List.mem_append, List.mem_cons] at he ⊢
    rcases he with he | he | he
    · exact .inr ⟨.inl he, .inl he⟩
    · exact .inl he
    · exact .inr ⟨.inr he, .inr (.inr he)⟩
  refine ⟨h.mv.then hm (fun k hk => ?_), by rw [hsame]; exact h.nd, fun e he => ?_, fun e he => ?_, fun r hr => ?_⟩
  · obtain rfl : k = g := by simpa using hk
    exact h.own _ hg
  · rcases hmem e he with rfl | ⟨he, he2⟩
    · have := Blk.sets (t := t) (b := g) vs i w cs.toArray (h.blk _ hg) (by simpa using hi)
      rw [← upd_seg i vs cs hi] at this
      exact this
    · exact Blk.sets_other (hne e he) vs i w (h.blk e he2)
  · rcases hmem e he with rfl | ⟨he, he2⟩
    · exact h.own ⟨g, cs, t⟩ hg
    · exact h.own e he2
  · obtain ⟨h1, h2⟩ := h.rd r hr
    rcases h2 with h2 | h2
    · exact ⟨h1.mv hm (.inl h2), .inl h2⟩
    · refine ⟨h1.mv hm (.inr fun b hb hbg => ?_), .inr fun b hb e he => ?_⟩
      · obtain rfl : b = g := by simpa using hbg
        exact h2 b hb _ hg rfl
      · rcases hmem e he with rfl | ⟨he, he2⟩
        · exact h2 b hb ⟨g, cs, t⟩ hg
        · exact h2 b hb e he2
/-- A call that writes one known block. -/
theorem St.calledOn (A B : List Ent) {g : Nat} {cs cs' : List Value} {t : TypeId} (h : St S w0 w (A ++ ⟨g, cs, t⟩ :: B) R) (hm : Mv [g] w w') (hk : Blk w' g cs'.toArray t) : St S w0 w' (A ++ ⟨g, cs', t⟩ :: B) R := by
  have hg : ⟨g, cs, t⟩ ∈ A ++ ⟨g, cs, t⟩ :: B := by simp
  have hnd := h.nd
  rw [List.map_append, List.map_cons, List.nodup_append] at hnd
  obtain ⟨n1, n2, n3⟩ := hnd
  rw [List.nodup_cons] at n2
  have hne : ∀ e, e ∈ A ∨ e ∈ B → e.g ≠ g := fun e he heq => by
    rcases he with he | he
    · exact n3 _ (List.mem_map_of_mem he) g (by simp) heq
    · have h5 := List.mem_map_of_mem (f := Ent.g) he
      rw [heq] at h5
      exact n2.1 h5
  have hsame : (A ++ ⟨g, cs', t⟩ :: B).map Ent.g = (A ++ ⟨g, cs, t⟩ :: B).map Ent.g := by simp
  have hmem : ∀ e, e ∈ A ++ (⟨g, cs', t⟩ : Ent) :: B → e = ⟨g, cs', t⟩ ∨ ((e ∈ A ∨ e ∈ B) ∧ e ∈ A ++ (⟨g, cs, t⟩ : Ent) :: B) := fun e he => by
    simp only [List.mem_append, List.mem_cons] at he ⊢
    rcases he with he | he | he
    · exact .inr ⟨.inl he, .inl he⟩
    · exact .inl he
    · exact .inr ⟨.inr he, .inr (.inr he)⟩
  refine ⟨h.mv.then hm (fun k hk => ?_), by rw [hsame]; exact h.nd, fun e he => ?_, fun e he => ?_, fun r hr => ?_⟩
  · obtain rfl : k = g := by simpa using hk
    exact h.own _ hg
  · rcases hmem e he with rfl | ⟨he, he2⟩
    · exact hk
    · exact (h.blk e he2).mv hm (by simpa using hne e he)
  · rcases hmem e he with rfl | ⟨he, he2⟩
    · exact h.own ⟨g, cs, t⟩ hg
    · exact h.own e he2
  · obtain ⟨h1, h2⟩ := h.rd r hr
    rcases h2 with h2 | h2
    · exact ⟨h1.mv hm (.inl h2), .inl h2⟩
    · refine ⟨h1.mv hm (.inr fun b hb hbg => ?_), .inr fun b hb e he => ?_⟩
      · obtain rfl : b = g := by simpa using hbg
        exact h2 b hb _ hg rfl
      · rcases hmem e he with rfl | ⟨he, he2⟩
        · exact h2 b hb ⟨g, cs, t⟩ hg
        · exact h2 b hb e he2
end

/-! ### What the table of types says -/
class AggT (P : Program) (T : TypeId) (n : outParam Nat) : Prop where
  row : ∃ d, P.underlying T = some d ∧ d.isRow = true
  size : (P.info? T).map (·.size) = some n
class OneT (P : Program) (T : TypeId) : Prop where
  row : ∃ d, P.underlying T = some d ∧ d.isRow = false
  size : (P.info? T).map (·.size) = some 1
class ZeroT (P : Program) (T : TypeId) (cs : outParam (List Value)) : Prop where
  zero : ((P.info? T).bind (·.zero)).map (·.cells) = some cs.toArray

/-- A cell of a list, to be found by evaluation. -/
def nth : List Value → Nat → Option Value
  | [], _ => none
  | v :: _, 0 => some v
  | _ :: r, n + 1 => nth r n
theorem nth_get : ∀ (l : List Value) (i : Nat), nth l i = l[i]?
  | [], i => by simp [nth]
  | v :: r, 0 => rfl
  | v :: r, i + 1 => by rw [List.getElem?_cons_succ]; exact nth_get r i
/-- What an operand holds, to be found by looking. -/
inductive EvR (a : Act) : Operand → Value → Prop
  | tmp {l : List Value} {d : List Deferred} {n : Nat} {v : Value} : a = ⟨l.toArray, d⟩ → nth l n = some v → EvR a (.tmp n) v
  | const (v : Value) : EvR a (.const v) v
theorem EvR.eval {a : Act} {x : Operand} {v : Value} (h : EvR a x v) : a.eval x = v := by
  cases h with
  | tmp ha hv =>
    subst ha
    rw [nth_get] at hv
    simp [Act.eval, hv]
  | const v => rfl

section
variable {P : Program} {ops : Array Oper} {Q : Exit → Act → World → Prop} {o : Oper} {rest : List Oper} {a : Act} {S : List Nat} {w0 w : World} {L : List Ent} {R : List Rd}
theorem run_loadOne {T : TypeId} [hT : OneT P T] {b i : Nat} {v : Value} (hc : w.cell? ⟨b, i, none⟩ = some v) : (loadVar T ⟨b, i, none⟩).run P w = .ok v w := by
  obtain ⟨⟨d, hu, hd⟩, _⟩ := hT
  have hagg : (isAgg T).run P w = .ok false w := by
    unfold isAgg
    rw [Sem.run_bind, run_underlying hu w]
    cases d <;> simp_all
  have hl : (load ⟨b, i, none⟩).run P w = .ok v w := by
    have := run_loadCells_list (P := P) w ⟨b, i, none⟩ [v] (fun j u hj => by
      cases j with
      | zero => simp at hj; subst hj; rw [Addr.add_mid]; exact hc
      | succ j => simp at hj)
    simp only [loadCells, List.length_cons, List.length_nil, loadCellsFrom, Sem.run_bind, Addr.add_mid, Nat.add_zero] at this
    cases hr : (load ⟨b, i, none⟩).run P w with
    | ok x w' =>
      rw [hr] at this
      simp only [Result.andThen_ok, Sem.run_pure] at this
      simp at this
      obtain ⟨h1, h2⟩ := this
      rw [h1, h2]
    | halt x w' => rw [hr] at this; simp at this
  simp only [loadVar, Sem.run_bind, hagg, Result.andThen_ok]
  exact hl
/-- Which operation stands first: for the walk, that tries the laws below at these alone. -/
def isLoad : Op → Bool
  | .load _ _ => true
  | _ => false
def isStore : Op → Bool
  | .store _ _ _ => true
  | _ => false
def isNew : Op → Bool
  | .alloc _ => true
  | .box _ _ => true
  | _ => false
def isMem : Op → Bool
  | .load _ _ => true
  | .store _ _ _ => true
  | .alloc _ => true
  | .box _ _ => true
  | _ => false
theorem at_mem (_ : isMem o.op = true) (h : wpList P ops Q (o :: rest) a w) : wpList P ops Q (o :: rest) a w := h
theorem at_load (_ : isLoad o.op = true) (h : wpList P ops Q (o :: rest) a w) : wpList P ops Q (o :: rest) a w := h
theorem at_store (_ : isStore o.op = true) (h : wpList P ops Q (o :: rest) a w) : wpList P ops Q (o :: rest) a w := h
theorem at_new (_ : isNew o.op = true) (h : wpList P ops Q (o :: rest) a w) : wpList P ops Q (o :: rest) a w := h
theorem at_load1 (T : TypeId) (x : Operand) (_ : o.op = .load T x) [OneT P T] (h : wpList P ops Q (o :: rest) a w) : wpList P ops Q (o :: rest) a w := h
theorem at_store1 (T : TypeId) (x y : Operand) (_ : o.op = .store T x y) [OneT P T] (h : wpList P ops Q (o :: rest) a w) : wpList P ops Q (o :: rest) a w := h
/-- One cell is read. -/
theorem m_load1 (hw : Region.wanted o (yielded ops a.tmps) = true) (T : TypeId) (x : Operand) (ho : o.op = .load T x) {g i : Nat} (hx : a.eval x = .pointer (some ⟨g, i, none⟩)) [OneT P T] (X : St S w0 w L R)
    {cs : List Value} {t : TypeId} (he : ⟨g, cs, t⟩ ∈ L) {v : Value} (hv : nth cs i = some v) (h : wpList P ops Q rest (a.put o.dst v) w) : wpList P ops Q (o :: rest) a w :=
  BigFrame.wpList_want hw fun K hK => by
    have hc : w.cell? ⟨g, i, none⟩ = some v := by rw [X.cell he, ← nth_get]; exact hv
    unfold Oper.wp execOp
    simp only [ho, hx, Instr.loadAt, Instr.sureAddr, Sem.run_bind, Sem.run_pure, Result.andThen_ok, run_loadOne (T := T) hc]
    exact hK _ _ h
/-- Cells are read, side by side. -/
theorem m_loadN (hw : Region.wanted o (yielded ops a.tmps) = true) (T : TypeId) (x : Operand) (ho : o.op = .load T x) {g i : Nat} (hx : a.eval x = .pointer (some ⟨g, i, none⟩)) {n : Nat} [hT : AggT P T n] (X : St S w0 w L R)
    {cs : List Value} {t : TypeId} (he : ⟨g, cs, t⟩ ∈ L) (hi : i + n ≤ cs.length) (h : wpList P ops Q rest (a.put o.dst (.agg ((cs.drop i).take n).toArray)) w) : wpList P ops Q (o :: rest) a w := by
  obtain ⟨⟨d, hu, hd⟩, hs⟩ := hT
  refine BigFrame.wpList_want hw fun K hK => wp_load_mid T x ho g i hx ((cs.drop i).take n) d (fun j v hj => ?_) hu hd (by rw [hs, List.length_take, List.length_drop]; congr 1; omega) (hK _ _ h)
  rw [X.cell he]
  rw [List.getElem?_take] at hj
  split at hj
  · rw [List.getElem?_drop] at hj; exact hj
  · cases hj
theorem oneAll {vs : List Value} (h : vs.all (·.oneCell') = true) : ∀ v ∈ vs, v.oneCell' = true := List.all_eq_true.1 h
theorem St.there (X : St S w0 w L R) {g : Nat} {cs : List Value} {t : TypeId} (he : ⟨g, cs, t⟩ ∈ L) {i n : Nat} (h : i + n ≤ cs.length) : w.there g i n := fun j hj => by
  refine ⟨?_, X.free he _⟩
  rw [X.cell he, List.getElem?_eq_getElem (by omega)]; rfl
/-- Cells are written, side by side: into the first, second, third, fourth known block. -/
theorem m_storeN (A B : List Ent) {g : Nat} {cs : List Value} {t : TypeId} (hw : Region.wanted o (yielded ops a.tmps) = true) (T : TypeId) (x y : Operand) (ho : o.op = .store T x y) {i : Nat} (hx : a.eval x = .pointer (some ⟨g, i, none⟩)) {n : Nat} [hT : AggT P T n]
    {vs : List Value} (hy : a.eval y = .agg vs.toArray) (X : St S w0 w (A ++ ⟨g, cs, t⟩ :: B) R) (hn : vs.length = n) (hi : i + vs.length ≤ cs.length) (h1 : vs.all (·.oneCell') = true)
    (h : ∀ w', St S w0 w' (A ++ ⟨g, upd i vs cs, t⟩ :: B) R → wpList P ops Q rest (a.put o.dst undef) w') : wpList P ops Q (o :: rest) a w :=
  BigFrame.wpList_want hw fun K hK => wp_store_mid T x y ho g i vs.toArray hx hy (X.there (cs := cs) (t := t) (by simp) (by simpa using hi)) (by rw [hT.size]; simp [hn]) (by simpa using h1) (hK _ _ (h _ (by simpa using X.wrote A B i vs hi)))
theorem run_storeOne {T : TypeId} [hT : OneT P T] {b i : Nat} {v : Value} (ht : w.there b i 1) (h1 : v.oneCell' = true) (hc : v.cells = #[v]) : (storeVar T ⟨b, i, none⟩ v).run P w = .ok () (w.setCells b i [v]) := by
  have := run_storeCells_cells (P := P) b i [v] 0 w (fun j hj => by simpa using (ht j (by simpa using hj)).1) (fun j hj => by simpa using (ht j (by simpa using hj)).2) (fun u hu => by simp at hu; subst hu; exact h1)
  have hi := hT.size
  cases hq : P.info? T with
  | none => simp [hq] at hi
  | some x =>
    have hs : x.size = 1 := by simpa [hq] using hi
    simp only [Nat.add_zero] at this
    simp [storeVar, Go.sizeOf, typeInfo, hq, hc, hs, this]
theorem m_store1 (A B : List Ent) {g : Nat} {cs : List Value} {t : TypeId} (hw : Region.wanted o (yielded ops a.tmps) = true) (T : TypeId) (x y : Operand) (ho : o.op = .store T x y) {i : Nat} (hx : a.eval x = .pointer (some ⟨g, i, none⟩)) [hT : OneT P T]
    {v : Value} (hy0 : EvR a y v) (X : St S w0 w (A ++ ⟨g, cs, t⟩ :: B) R) (hi : i < cs.length) (h1 : v.oneCell' = true) (hc : v.cells = #[v])
    (h : ∀ w', St S w0 w' (A ++ ⟨g, upd i [v] cs, t⟩ :: B) R → wpList P ops Q rest (a.put o.dst undef) w') : wpList P ops Q (o :: rest) a w :=
  BigFrame.wpList_want hw fun K hK => by
    have hy := hy0.eval
    have ht := X.there (g := g) (cs := cs) (t := t) (i := i) (n := 1) (by simp) (by omega)
    unfold Oper.wp execOp
    simp only [ho, hx, hy, Instr.storeAt, Instr.sureAddr, Sem.run_bind, Sem.run_pure, Result.andThen_ok, run_storeOne (T := T) ht h1 hc]
    exact hK _ _ (h _ (by simpa using X.wrote A B i [v] (show i + 1 ≤ cs.length from hi)))
/-- A new block of noughts. -/
theorem m_alloc (hw : Region.wanted o (yielded ops a.tmps) = true) (T : TypeId) (ho : o.op = .alloc T) {cs : List Value} [hT : ZeroT P T cs] (X : St S w0 w L R)
    (h : ∀ g w', St S w0 w' (⟨g, cs, T⟩ :: L) R → wpList P ops Q rest (a.put o.dst (.pointer (some ⟨g, 0, none⟩))) w') : wpList P ops Q (o :: rest) a w :=
  BigFrame.wpList_want hw fun K hK => by
    have hz := hT.zero
    cases hq : P.info? T with
    | none => simp [hq] at hz
    | some x =>
      cases hs : x.zero with
      | none => simp [hq, hs] at hz
      | some z =>
        have hc : z.cells = cs.toArray := by simpa [hq, hs] using hz
        unfold Oper.wp execOp
        simp only [ho, Instr.alloc, zeroValue, typeInfo, newVar, newRow, newObj, Sem.run_bind, Sem.run_pure, Result.andThen_ok]
        simp [hq, hs, hc]
        exact hK _ _ (h _ _ (X.alloc cs T))
/-- A value is laid into a new block. -/
theorem m_box (hw : Region.wanted o (yielded ops a.tmps) = true) (T : TypeId) (x : Operand) (ho : o.op = .box T x) {v : Value} (hx0 : EvR a x v) {cs : List Value} (hc : v.cells = cs.toArray) (X : St S w0 w L R)
    (h : ∀ g w', St S w0 w' (⟨g, cs, T⟩ :: L) R → wpList P ops Q rest (a.put o.dst (.pointer (some ⟨g, 0, none⟩))) w') : wpList P ops Q (o :: rest) a w :=
  BigFrame.wpList_want hw fun K hK => by
    have hx := hx0.eval
    unfold Oper.wp execOp
    simp only [ho, hx, hc, Instr.box, newVar, newRow, newObj, Sem.run_bind, Sem.run_pure, Result.andThen_ok]
    exact hK _ _ (h _ _ (X.alloc cs T))
theorem St.whole (X : St S w0 w L R) {T : TypeId} {n : Nat} [hT : AggT P T n] {g : Nat} {cs : List Value} {t : TypeId} (he : ⟨g, cs, t⟩ ∈ L) (hn : cs.length = n) : (loadVar T ⟨g, 0, none⟩).run P w = .ok (.agg cs.toArray) w := by
  obtain ⟨⟨d, hu, hd⟩, hs⟩ := hT
  exact run_loadVar_mid w g 0 T cs d (fun j v hj => by rw [Nat.zero_add, X.cell he]; exact hj) hu hd (by rw [hs, hn])
/-- A result that lies in a block. -/
theorem m_ret1 {fn : Func} {F : Ending → World → Prop} {p : Tmp} {T : TypeId} (hr : fn.results = #[.cell p T]) {g : Nat} (hp : EvR a (.tmp p) (.pointer (some ⟨g, 0, none⟩))) {n : Nat} [hT : AggT P T n] (X : St S w0 w L R)
    {cs : List Value} {t : TypeId} (he : ⟨g, cs, t⟩ ∈ L) (hn : cs.length = n) (hd : a.defers = []) (h : F (.returned (.agg cs.toArray)) w) : bodyPost P fn F .ret a w := by
  have hp' : a.tmps[p]?.getD undef = .pointer (some ⟨g, 0, none⟩) := by have := hp.eval; simpa [Act.eval] using this
  refine bodyPost_ret (v := .agg cs.toArray) ?_ hd h
  simp [results, hr, hp', asAddr, X.whole (T := T) he hn]
/-- A result that lies in a block, and one in a slot. -/
theorem m_ret2 {fn : Func} {F : Ending → World → Prop} {p q : Tmp} {T : TypeId} (hr : fn.results = #[.cell p T, .tmp q]) {g : Nat} (hp : EvR a (.tmp p) (.pointer (some ⟨g, 0, none⟩))) {v : Value} (hq : EvR a (.tmp q) v) {n : Nat} [hT : AggT P T n] (X : St S w0 w L R)
    {cs : List Value} {t : TypeId} (he : ⟨g, cs, t⟩ ∈ L) (hn : cs.length = n) (hd : a.defers = []) (h : F (.returned (.tuple #[.agg cs.toArray, v])) w) : bodyPost P fn F .ret a w := by
  have hp' : a.tmps[p]?.getD undef = .pointer (some ⟨g, 0, none⟩) := by have := hp.eval; simpa [Act.eval] using this
  have hq' : a.tmps[q]?.getD undef = v := by have := hq.eval; simpa [Act.eval] using this
  refine bodyPost_ret (v := .tuple #[.agg cs.toArray, v]) ?_ hd h
  simp [results, hr, hp', hq', asAddr, X.whole (T := T) he hn]
/-- A result that lies in a block, and two in slots. -/
theorem m_ret3 {fn : Func} {F : Ending → World → Prop} {p q r : Tmp} {T : TypeId} (hr : fn.results = #[.cell p T, .tmp q, .tmp r]) {g : Nat} (hp : EvR a (.tmp p) (.pointer (some ⟨g, 0, none⟩))) {v u : Value} (hq : EvR a (.tmp q) v) (hu : EvR a (.tmp r) u) {n : Nat} [hT : AggT P T n] (X : St S w0 w L R)
    {cs : List Value} {t : TypeId} (he : ⟨g, cs, t⟩ ∈ L) (hn : cs.length = n) (hd : a.defers = []) (h : F (.returned (.tuple #[.agg cs.toArray, v, u])) w) : bodyPost P fn F .ret a w := by
  have hp' : a.tmps[p]?.getD undef = .pointer (some ⟨g, 0, none⟩) := by have := hp.eval; simpa [Act.eval] using this
  have hq' : a.tmps[q]?.getD undef = v := by have := hq.eval; simpa [Act.eval] using this
  have hu' : a.tmps[r]?.getD undef = u := by have := hu.eval; simpa [Act.eval] using this
  refine bodyPost_ret (v := .tuple #[.agg cs.toArray, v, u]) ?_ hd h
  simp [results, hr, hp', hq', hu', asAddr, X.whole (T := T) he hn]
end
end Wb

namespace Go.Proofs.Ytjhmfljlclajnab
open Go.RowKit Wb
instance : AggT Try.prog 64 10 := ⟨⟨_, Try.underlying64, rfl⟩, by kernel_rfl⟩
instance : ZeroT Try.prog 64 [.int .i64 0, .slice none 0 0, .slice none 0 0, .slice none 0 0, .bool false, .int .i64 0, .bool false, .int .i64 0, .bool false, .int .i64 0] := ⟨by kernel_rfl⟩
instance : AggT Try.prog 93 2 := ⟨⟨_, Try.underlying93, rfl⟩, by kernel_rfl⟩
instance : ZeroT Try.prog 93 [.int .i64 0, .string ⟨#[]⟩] := ⟨by kernel_rfl⟩
instance : AggT Try.prog 61 2 := ⟨⟨_, Try.underlying61, rfl⟩, by kernel_rfl⟩
instance : AggT Try.prog 25 2 := ⟨⟨_, Try.underlying25, rfl⟩, by kernel_rfl⟩
instance : ZeroT Try.prog 25 [.slice none 0 0, .slice none 0 0] := ⟨by kernel_rfl⟩
instance : AggT Try.prog 51 3 := ⟨⟨_, Try.underlying51, rfl⟩, by kernel_rfl⟩
instance : ZeroT Try.prog 51 [.slice none 0 0, .int .i64 0, .int .i64 0] := ⟨by kernel_rfl⟩
instance : AggT Try.prog 38 5 := ⟨⟨_, Try.underlying38, rfl⟩, by kernel_rfl⟩
instance : ZeroT Try.prog 38 [.int .i64 0, .int .i64 0, .int .i64 0, .slice none 0 0, .slice none 0 0] := ⟨by kernel_rfl⟩
instance : AggT Try.prog 48 2 := ⟨⟨_, Try.underlying48, rfl⟩, by kernel_rfl⟩
instance : OneT Try.prog 3 := ⟨⟨_, Try.underlying3, rfl⟩, by kernel_rfl⟩
instance : ZeroT Try.prog 3 [.int .i64 0] := ⟨by kernel_rfl⟩
instance : OneT Try.prog 4 := ⟨⟨_, Try.underlying4, rfl⟩, by kernel_rfl⟩
instance : ZeroT Try.prog 4 [.bool false] := ⟨by kernel_rfl⟩
instance : OneT Try.prog 9 := ⟨⟨_, Try.underlying9, rfl⟩, by kernel_rfl⟩
instance : ZeroT Try.prog 9 [.string ⟨#[]⟩] := ⟨by kernel_rfl⟩
instance : OneT Try.prog 27 := ⟨⟨_, Try.underlying27, rfl⟩, by kernel_rfl⟩
instance : OneT Try.prog 57 := ⟨⟨_, Try.underlying57, rfl⟩, by kernel_rfl⟩
instance : ZeroT Try.prog 57 [.slice none 0 0] := ⟨by kernel_rfl⟩
instance : OneT Try.prog 36 := ⟨⟨_, Try.underlying36, rfl⟩, by kernel_rfl⟩
instance : ZeroT Try.prog 36 [.slice none 0 0] := ⟨by kernel_rfl⟩
instance : OneT Try.prog 49 := ⟨⟨_, Try.underlying49, rfl⟩, by kernel_rfl⟩
instance : ZeroT Try.prog 49 [.slice none 0 0] := ⟨by kernel_rfl⟩
instance : OneT Try.prog 35 := ⟨⟨_, Try.underlying35, rfl⟩, by kernel_rfl⟩
instance : OneT Try.prog 22 := ⟨⟨_, Try.underlying22, rfl⟩, by kernel_rfl⟩
instance : ZeroT Try.prog 22 [.slice none 0 0] := ⟨by kernel_rfl⟩
instance : OneT Try.prog 23 := ⟨⟨_, Try.underlying23, rfl⟩, by kernel_rfl⟩
end Go.Proofs.Ytjhmfljlclajnab

namespace Wb
open Go Go.RowKit
/-- The ten cells of a transaction. -/
def txnL (t : Txn) (vm vd vr : Value) : List Value := [.int .i64 t.seq, vm, vd, vr, .bool t.h0.on, .int .i64 t.h0.left, .bool t.h1.on, .int .i64 t.h1.left, .bool t.h2.on, .int .i64 t.h2.left]
theorem txnV_L (t : Txn) (vm vd vr : Value) : txnV t vm vd vr = .agg (txnL t vm vd vr).toArray := rfl
end Wb
namespace Go.Proofs.Ytjhmfljlclajnab
open Go.RowKit Wb
set_option linter.unusedVariables false
set_option linter.unusedSimpArgs false
set_option maxRecDepth 100000
set_option maxHeartbeats 8000000
theorem txn_pay (t : Txn) (am ad ar : Option Addr) (cm cd cr : Nat) (h b : Int) (g : Nat) (w : World) (k0 : Blk w g (txnL t (.slice am t.mt.length cm) (.slice ad t.dt.length cd) (.slice ar t.rev.length cr)).toArray 64)
    (hg : GoodT t) (hm : RL cpyC w (.slice am t.mt.length cm) t.mt) (hr : RL intC w (.slice ar t.rev.length cr) t.rev) (hh : 0 ≤ h ∧ h ≤ 2) :
    Calls Try.prog 90 #[.pointer (some ⟨g, 0, none⟩), .int .i64 h, .int .i64 b] w fun e w' => e = .returned (.int .i64 (payE t h b)) ∧ Blk w' g (txnL (payU t h b) (.slice am t.mt.length cm) (.slice ad t.dt.length cd) (.slice ar t.rev.length cr)).toArray 64 ∧ Mv [g] w w' := by
  obtain ⟨n1, _, n3⟩ := lens hg
  have hs := copies_rise hg.mt
  obtain ⟨l0, l1, l2⟩ := hnds_bd hg
  have hlt := k0.lt
  obtain ⟨seq, mt, dt, rev, ⟨o0, x0⟩, ⟨o1, x1⟩, ⟨o2, x2⟩⟩ := t
  dsimp only [txnL] at *
  unfold payU payE payT owed
  dsimp only
  cases hf : (hasB mt b || inI rev b) with
  | true =>
    rw [if_neg (by simp), if_pos rfl, if_neg (by simp)]
    obtain (rfl | rfl | rfl) : h = 0 ∨ h = 1 ∨ h = 2 := by omega
    · refine (txn_pay_free0 seq mt dt rev o0 o1 o2 x0 x1 x2 am ad ar cm cd cr b g w k0 hs hm hr (by omega) (by omega) hf).mono ?_
      rintro e w' ⟨rfl, hb⟩
      exact ⟨rfl, k0.step hb, Mv.ofBelow hb⟩
    · refine (txn_pay_free1 seq mt dt rev o0 o1 o2 x0 x1 x2 am ad ar cm cd cr b g w k0 hs hm hr (by omega) (by omega) hf).mono ?_
      rintro e w' ⟨rfl, hb⟩
      exact ⟨rfl, k0.step hb, Mv.ofBelow hb⟩
    · refine (txn_pay_free2 seq mt dt rev o0 o1 o2 x0 x1 x2 am ad ar cm cd cr b g w k0 hs hm hr (by omega) (by omega) hf).mono ?_
      rintro e w' ⟨rfl, hb⟩
      exact ⟨rfl, k0.step hb, Mv.ofBelow hb⟩
  | false =>
    obtain (rfl | rfl | rfl) : h = 0 ∨ h = 1 ∨ h = 2 := by omega
    · by_cases hz : x0 = 0
      · rw [if_pos ⟨rfl, hz⟩, if_neg (by decide)]
        refine (txn_pay_none0 seq mt dt rev o0 o1 o2 x0 x1 x2 am ad ar cm cd cr b g w k0 hs hm hr (by omega) (by omega) hf hz).mono ?_
        rintro e w' ⟨rfl, hb⟩
        exact ⟨rfl, k0.step hb, Mv.ofBelow hb⟩
      · rw [if_neg (fun hh => hz hh.2), if_pos rfl, if_pos (by simp)]
        refine (txn_pay_one0 seq mt dt rev o0 o1 o2 x0 x1 x2 am ad ar cm cd cr b g w k0 hs hm hr (by omega) (by omega) hf (by omega) (by omega)).mono ?_
        rintro e w' ⟨rfl, w1, hb, rfl⟩
        exact ⟨rfl, by simpa [setH, getH] using (k0.step hb).set 5 (.int .i64 (x0 - 1)), (Mv.ofBelow hb).then (Mv.set w1 ⟨g, 5, none⟩ _) (by simp)⟩
    · by_cases hz : x1 = 0
      · rw [if_pos ⟨rfl, hz⟩, if_neg (by decide)]
        refine (txn_pay_none1 seq mt dt rev o0 o1 o2 x0 x1 x2 am ad ar cm cd cr b g w k0 hs hm hr (by omega) (by omega) hf hz).mono ?_
        rintro e w' ⟨rfl, hb⟩
        exact ⟨rfl, k0.step hb, Mv.ofBelow hb⟩
      · rw [if_neg (fun hh => hz hh.2), if_pos rfl, if_pos (by simp)]
        refine (txn_pay_one1 seq mt dt rev o0 o1 o2 x0 x1 x2 am ad ar cm cd cr b g w k0 hs hm hr (by omega) (by omega) hf (by omega) (by omega)).mono ?_
        rintro e w' ⟨rfl, w1, hb, rfl⟩
        exact ⟨rfl, by simpa [setH, getH] using (k0.step hb).set 7 (.int .i64 (x1 - 1)), (Mv.ofBelow hb).then (Mv.set w1 ⟨g, 7, none⟩ _) (by simp)⟩
    · by_cases hz : x2 = 0
      · rw [if_pos ⟨rfl, hz⟩, if_neg (by decide)]
        refine (txn_pay_none2 seq mt dt rev o0 o1 o2 x0 x1 x2 am ad ar cm cd cr b g w k0 hs hm hr (by omega) (by omega) hf hz).mono ?_
        rintro e w' ⟨rfl, hb⟩
        exact ⟨rfl, k0.step hb, Mv.ofBelow hb⟩
      · rw [if_neg (fun hh => hz hh.2), if_pos rfl, if_pos (by simp)]
        refine (txn_pay_one2 seq mt dt rev o0 o1 o2 x0 x1 x2 am ad ar cm cd cr b g w k0 hs hm hr (by omega) (by omega) hf (by omega) (by omega)).mono ?_
        rintro e w' ⟨rfl, w1, hb, rfl⟩
        exact ⟨rfl, by simpa [setH, getH] using (k0.step hb).set 9 (.int .i64 (x2 - 1)), (Mv.ofBelow hb).then (Mv.set w1 ⟨g, 9, none⟩ _) (by simp)⟩
end Go.Proofs.Ytjhmfljlclajnab

namespace Go.Proofs.Ytjhmfljlclajnab
open Go.RowKit Wb
set_option linter.unusedVariables false
set_option linter.unusedSimpArgs false
set_option maxRecDepth 100000
set_option maxHeartbeats 8000000
theorem slices_DeleteFuncI (l : List Int) (b : Int) (v : Value) (gb base : Nat) (w : World) (h : Own intC base 3 1 w v l) (hbase : base ≤ w.heap.size) (hgb : gb < base) (hc : w.cell? ⟨gb, 0, none⟩ = some (.int .i64 b)) (hl : l.length ≤ 17592186044160) :
    Calls Try.prog 91 #[v, .func (.func 93) #[] #[.pointer (some ⟨gb, 0, none⟩)]] w fun e w' => ∃ v', e = .returned v' ∧ Own intC base 3 1 w' v' (l.filter (fun x => !(x == b))) ∧ Below base w w' := by
  have hIF := slices_IndexFuncI l b v gb w h.reads hc hl
  rcases idxK_spec (fun x => x) l b with ⟨e1, hno⟩ | ⟨k, e1, hk, hkb, hno⟩
  · rw [e1] at hIF
    have e2 : l.filter (fun x => !(x == b)) = l := filter_all (fun i hi => by simpa using hno i hi)
    rw [e2]
    obtain ⟨a, cap, rfl⟩ := h.form
    replace hIF := hid hIF; replace h := hid h
    clear e1 e2 hno
    go_enter Try.func91, Try.ntmps91
    go_wp2_with (go_at_call 105; go_loud ((with_reducible refine hIF.out.mono ?_); rintro e w1 ⟨rfl, hb1⟩))
    go_ret
    exact ⟨_, rfl, h.out.below hb1, hb1.mono hbase⟩
  · rw [e1] at hIF
    have hK0 : KeptI (fun x => !(x == b)) l (k + 1) k l := KeptI.start hk (fun i hi h2 => by simpa using hno i h2) (by simpa using hkb)
    obtain ⟨g, cap, cur, rfl, hbg, hkk, hcap, hmax, hsz, htk⟩ := h.row (by omega)
    have hC := hid (fun x w hc => txn_Change1 x b gb w hc)
    have hne1 : ((k : Int) == -1) = false := beq_eq_false_iff_ne.2 (by omega)
    have hKp : Hid (KeptI (fun x => !(x == b)) l (k + 1) k l) := hid hK0
    have hle := hKp.out.le
    replace hIF := hid hIF; replace h := hid h; replace hc := hid hc
    clear e1 hno hkb hK0 hkk hsz htk cur
    go_enter Try.func91, Try.ntmps91
    go_wp2_with (go_at_call 105; go_loud ((with_reducible refine hIF.out.mono ?_); rintro e w1 ⟨rfl, hb1⟩; have h1 := hid (h.out.below hb1); have hc1 := hid (cell_below hb1 hc.out); have nx := hb1.mono hbase; clear h hc hIF))
    go_loopg [5, 6, 7] l.length (fun gg s5 s6 _ wr => ∃ (i j : Nat) (lk : List Int), s5 = .int .i64 i ∧ s6 = .int .i64 j ∧ j ≤ l.length ∧ i < j ∧ l.length - j ≤ gg ∧ Below base w wr ∧ Hid (wr.cell? ⟨gb, 0, none⟩ = some (.int .i64 b)) ∧ Hid (Own intC base 3 1 wr (.slice (some ⟨g, 0, none⟩) l.length cap) lk) ∧ Hid (KeptI (fun x => !(x == b)) l j i lk))
    case atStart => exact ⟨k, k + 1, l, rfl, by go_num, by omega, by omega, by omega, nx, hc1, h1, hKp⟩
    case round =>
      clear nx hc1 h1 hKp hb1
      obtain ⟨i, j, lk, rfl, rfl, hjl, hij, hgg, nx, hcw, ho, hK⟩ := hrel
      by_cases hlt : j < l.length
      · obtain ⟨hjk, hje⟩ := hK.out.get hlt
        obtain ⟨b1, o1, hae, c0⟩ := RL.at1 (fun x => .int .i64 x) (fun _ => rfl) ho.out.reads hjk
        simp only [Option.some.injEq, Addr.mk.injEq, and_true] at hae
        obtain ⟨rfl, rfl⟩ := hae
        rw [hje] at c0
        simp only [Nat.zero_add] at c0
        have hCx := hC.out l[j] wr hcw.out
        by_cases hb : l[j] = b
        · have hK2 := hid (hK.out.skip hlt (by simpa using hb))
          have e1 : (l[j] == b) = true := beq_iff_eq.2 hb
          rw [e1] at hCx
          replace hCx := hid hCx
          clear hb e1 hK hje
          generalize l[j] = x at *
          go_wp2_with (go_at_call 93; go_loud ((with_reducible refine hCx.out.mono ?_); rintro e w1 ⟨rfl, hb1⟩; have ho2 := hid (ho.out.below hb1); have hcw2 := hid (cell_below hb1 hcw.out); have nx2 := nx.trans (hb1.mono (Nat.le_trans hbase nx.size))))
          go_roundg (l.length - (j + 1))
          case measure => omega
          case rel => exact ⟨i, j + 1, lk, rfl, by go_num, by omega, by omega, Nat.le_refl _, nx2, hcw2, ho2, hK2⟩
        · have hK2 := hid (hK.out.keep hlt (by simpa using hb))
          have hil : i < lk.length := by omega
          have e1 : (l[j] == b) = false := beq_eq_false_iff_ne.2 hb
          rw [e1] at hCx
          replace hCx := hid hCx
          clear hb e1 hK hje
          have hin : i < l.length := by omega
          generalize l[j] = x at *
          go_wp2_with (go_at_call 93; go_loud ((with_reducible refine hCx.out.mono ?_); rintro e w1 ⟨rfl, hb1⟩; have ho2 := ho.out.below hb1; have hcw2 := hid (cell_below hb1 hcw.out); have nx2 := nx.trans (hb1.mono (Nat.le_trans hbase nx.size)); obtain ⟨g2, cap2, hv2, hb2, hg2, hq, hnew⟩ := Own.poke intC_flat ho2 hil; simp only [Value.slice.injEq, Option.some.injEq, Addr.mk.injEq, and_true, true_and] at hv2; obtain ⟨rfl, -, rfl⟩ := hv2; have q0 := (hq 0 (by decide)).1; have q1 := (hq 0 (by decide)).2; simp only [intC, Nat.mul_one, Nat.add_zero, List.getElem?_cons_zero] at q0 q1; replace hnew := hid hnew; clear hq))
          go_roundg (l.length - (j + 1))
          case measure => omega
          case rel => exact ⟨i + 1, j + 1, lk.set i x, by go_num, by go_num, by omega, by omega, Nat.le_refl _, nx2.setCell hbg _, hid (by rw [World.cell?_setCell_other _ _ _ _ (fun hh => by simp only [Addr.mk.injEq] at hh; omega)]; exact hcw2.out), hid (by have := hnew.out 0 x (.int .i64 x) (by decide) rfl; rw [Nat.mul_one, Nat.add_zero] at this; exact this), hK2⟩
      · obtain rfl : j = l.length := by omega
        obtain ⟨hd1, hd2⟩ := hK.out.done (Nat.le_refl _)
        have hlk := hK.out.1
        have hcut := hid (fun zs hz => Own.cut (i := i) intC_flat (by rw [hlk]; exact ho.out) (by omega) zs hz)
        obtain ⟨g', cap', cur', hv', hbg', hkk, hcap', hmax', hsz, htk⟩ := ho.out.row (by omega)
        simp only [Value.slice.injEq, Option.some.injEq, Addr.mk.injEq, and_true, true_and] at hv'
        obtain ⟨rfl, -, rfl⟩ := hv'
        have hcl : ∀ ty, (Builtin.clear_ #[36] ty #[.slice (some ⟨g, i, none⟩) (l.length - i) (cap - i)]).run Try.prog wr = .ok (.tuple #[]) (wr.setCells g (i) (Builtin.zeroCells (.int .i64 0 : Value).cells (l.length - i)).toList) :=
          fun ty => run_clear_c wr _ _ ty (.int .i64 0) elemIntT.under (fun _ => rfl) (by decide) (by decide) g _ _ _ (by omega)
            (fun t ht => by rw [hkk.cell, Array.getElem?_eq_getElem (by rw [hsz]; simp [Value.cells] at ht; omega)]; rfl) (fun t ht => hkk.free _)
        have hzl : i * 1 + (Builtin.zeroCells (.int .i64 0 : Value).cells (l.length - i)).toList.length ≤ l.length * 1 := by
          rw [Array.length_toList, size_zeroCells]
          have := mul_split (c := 1) (n := l.length) (i := i) (by omega)
          simp only [Value.cells] at this ⊢
          simp
          omega
        have hfin := hcut.out _ (by rw [hlk]; exact hzl)
        rw [hd1] at hfin
        have nz := Wb.Below.sets g hbg (Builtin.zeroCells (.int .i64 0 : Value).cells (l.length - i)).toList (i * 1) _ nx
        simp only [Nat.mul_one] at hfin nz
        replace hfin := hid hfin; replace nz := hid nz
        clear hcut hkk hsz htk hzl hK ho hd1 hd2 hlk
        generalize (Builtin.zeroCells (.int .i64 0 : Value).cells (l.length - i)).toList = zs at *
        have hil : (i : Int) ≤ (l.length : Int) := by omega
        have hci : ¬ (cap = i) := by omega
        go_wp2
        go_ret
        exact ⟨_, rfl, hfin.out, nz.out⟩
end Go.Proofs.Ytjhmfljlclajnab

namespace Wb
open Go Go.RowKit
theorem Own.fresh {α : Type} {f : α → List Value} {base B : Nat} {e : TypeId} {c : Nat} {w : World} {v : Value} {l : List α} (h : Own f base e c w v l) (hB : B ≤ base) : ∀ b, vblk v = some b → B ≤ b := fun b hb => by
  obtain ⟨_, h2⟩ := h
  rcases h2 with ⟨rfl, _⟩ | ⟨g, cap, cur, rfl, hbg, _⟩
  · cases hb
  · cases hb; exact Nat.le_trans hB hbg
/-- The slice v, that read l, is still v and l, or a new one, of a block from B on. -/
def Slot {α : Type} (f : α → List Value) (B : Nat) (w' : World) (v v' : Value) (l l' : List α) : Prop := (v' = v ∧ l' = l) ∨ (RL f w' v' l' ∧ ∀ b, vblk v' = some b → B ≤ b)
theorem Slot.same {α : Type} (f : α → List Value) (B : Nat) (w' : World) (v : Value) (l : List α) : Slot f B w' v v l l := .inl ⟨rfl, rfl⟩
theorem Slot.read {α : Type} {f : α → List Value} {B : Nat} {w' : World} {v v' : Value} {l l' : List α} (h : Slot f B w' v v' l l') (hr : RL f w' v l) : RL f w' v' l' := by
  rcases h with ⟨rfl, rfl⟩ | ⟨h, _⟩
  · exact hr
  · exact h
structure NewT (B : Nat) (w' : World) (vm vd vr vm' vd' vr' : Value) (t t' : Txn) : Prop where
  m : Slot cpyC B w' vm vm' t.mt t'.mt
  d : Slot cpyC B w' vd vd' t.dt t'.dt
  r : Slot intC B w' vr vr' t.rev t'.rev
theorem NewT.same (B : Nat) (w' : World) (vm vd vr : Value) (t : Txn) : NewT B w' vm vd vr vm vd vr t t := ⟨.same _ _ _ _ _, .same _ _ _ _ _, .same _ _ _ _ _⟩
section
variable {S : List Nat} {w0 w w' : World} {L : List Ent} {R : List Rd}
theorem St.addSlot (X : St S w0 w L R) {α : Type} {f : α → List Value} {B : Nat} {v v' : Value} {l l' : List α} (hB : ∀ e ∈ L, e.g < B) (hs : Slot f B w v v' l l') (hv : Rd.of f v l ∈ R) : St S w0 w L (Rd.of f v' l' :: R) := by
  rcases hs with ⟨rfl, rfl⟩ | ⟨h1, h2⟩
  · exact X.addR (X.rd _ hv).1 (X.rd _ hv).2
  · exact X.addR h1 (.inr fun b hb e he heq => by
      have := h2 b hb
      have := hB e he
      omega)
theorem St.lts (X : St S w0 w L R) : ∀ e ∈ L, e.g < w.heap.size := fun e he => (X.blk e he).lt
/-- Behind a call that hands a transaction back. -/
theorem St.addT (X : St S w0 w L R) (hb : Below w.heap.size w w') {vm vd vr vm' vd' vr' : Value} {t t' : Txn} (hN : NewT w.heap.size w' vm vd vr vm' vd' vr' t t') (hm : Rd.of cpyC vm t.mt ∈ R) (hd : Rd.of cpyC vd t.dt ∈ R) (hr : Rd.of intC vr t.rev ∈ R) :
    St S w0 w' L (Rd.of cpyC vm' t'.mt :: Rd.of cpyC vd' t'.dt :: Rd.of intC vr' t'.rev :: R) := by
  have X1 := X.call hb
  have X2 := X1.addSlot X.lts hN.r hr
  have X3 := X2.addSlot X.lts hN.d (List.mem_cons_of_mem _ hd)
  exact X3.addSlot X.lts hN.m (List.mem_cons_of_mem _ (List.mem_cons_of_mem _ hm))
theorem St.rtxn (X : St S w0 w L R) {vm vd vr : Value} {t : Txn} (hm : Rd.of cpyC vm t.mt ∈ R) (hd : Rd.of cpyC vd t.dt ∈ R) (hr : Rd.of intC vr t.rev ∈ R) (h1 : t.mt.length ≤ 5864062014805) (h2 : t.dt.length ≤ 5864062014805) (h3 : t.rev.length ≤ 17592186044160) : RTxn w (txnV t vm vd vr) t :=
  ⟨vm, vd, vr, rfl, X.read hm, X.read hd, X.read hr, h1, h2, h3⟩
theorem St.rt0 {vm vd vr : Value} {t : Txn} (X : St S w0 w L (Rd.of cpyC vm t.mt :: Rd.of cpyC vd t.dt :: Rd.of intC vr t.rev :: R)) (h1 : t.mt.length ≤ 5864062014805) (h2 : t.dt.length ≤ 5864062014805) (h3 : t.rev.length ≤ 17592186044160) : RTxn w (txnV t vm vd vr) t :=
  X.rtxn (.head _) (.tail _ (.head _)) (.tail _ (.tail _ (.head _))) h1 h2 h3
theorem St.rt1 {r0 r1 r2 : Rd} {vm vd vr : Value} {t : Txn} (X : St S w0 w L (r0 :: r1 :: r2 :: Rd.of cpyC vm t.mt :: Rd.of cpyC vd t.dt :: Rd.of intC vr t.rev :: R)) (h1 : t.mt.length ≤ 5864062014805) (h2 : t.dt.length ≤ 5864062014805) (h3 : t.rev.length ≤ 17592186044160) : RTxn w (txnV t vm vd vr) t :=
  X.rtxn (.tail _ (.tail _ (.tail _ (.head _)))) (.tail _ (.tail _ (.tail _ (.tail _ (.head _))))) (.tail _ (.tail _ (.tail _ (.tail _ (.tail _ (.head _)))))) h1 h2 h3
/-- A transaction of the start. -/
theorem St.startT {vm vd vr : Value} {t : Txn} (ht : RTxn w0 (txnV t vm vd vr) t) : St [] w0 w0 [] [Rd.of cpyC vm t.mt, Rd.of cpyC vd t.dt, Rd.of intC vr t.rev] := by
  obtain ⟨vm', vd', vr', hv, h1, h2, h3, _⟩ := ht
  simp only [txnV, Value.agg.injEq, Array.mk.injEq, List.cons.injEq, and_true, true_and] at hv
  obtain ⟨rfl, rfl, rfl⟩ := hv
  exact (((St.start [] w0).addR0 h3).addR0 h2).addR0 h1
end
theorem NewT.rtxn {B : Nat} {w' : World} {vm vd vr vm' vd' vr' : Value} {t t' : Txn} (h : NewT B w' vm vd vr vm' vd' vr' t t') (ht : RTxn w' (txnV t vm vd vr) t) (h1 : t'.mt.length ≤ 5864062014805) (h2 : t'.dt.length ≤ 5864062014805) (h3 : t'.rev.length ≤ 17592186044160) : RTxn w' (txnV t' vm' vd' vr') t' := by
  obtain ⟨um, ud, ur, hv, r1, r2, r3, _⟩ := ht
  simp only [txnV, Value.agg.injEq, Array.mk.injEq, List.cons.injEq, and_true, true_and] at hv
  obtain ⟨rfl, rfl, rfl⟩ := hv
  exact ⟨_, _, _, rfl, h.m.read r1, h.d.read r2, h.r.read r3, h1, h2, h3⟩
end Wb

namespace Go.Proofs.Ytjhmfljlclajnab
open Go.RowKit Wb
set_option linter.unusedVariables false
set_option linter.unusedSimpArgs false
set_option maxRecDepth 100000
set_option maxHeartbeats 8000000

theorem txn_Change_no (t : Txn) (h b : Int) (s : ByteArray) (v : Value) (w : World) (ht : RTxn w v t) (hz : ¬ mayE t h b = 0) :
    Calls Try.prog 73 #[v, .int .i64 h, .int .i64 b, .string s] w fun e w' => e = .returned (.tuple #[v, .int .i64 (mayE t h b)]) ∧ Below w.heap.size w w' := by
  have hMay := fun w' (hb : Below w.heap.size w w') => txn_may t h b _ w' (ht.below hb)
  obtain ⟨vm, vd, vr, rfl, hm, hd, hr, n1, n2, n3⟩ := ht
  obtain ⟨am, cm, rfl, _⟩ := hm.form
  obtain ⟨ad, cd, rfl, _⟩ := hd.form
  obtain ⟨ar, cr, rfl, _⟩ := hr.form
  generalize mayE t h b = E at *
  replace hMay := hid hMay
  clear hm hd hr
  unfold txnV at hMay ⊢
  have X := St.start [] w
  go_enter Try.func73, Try.ntmps73
  go_wp2_with (first | (refine at_mem rfl ?_; (first | (refine at_load rfl ?_; (first | (refine at_load1 _ _ rfl ?_; (first | (refine m_load1 rfl _ _ rfl rfl X (.head _) rfl ?_; (simp only [Act.put, List.setIfInBounds_toArray, List.set_cons_succ, List.set_cons_zero, List.drop_succ_cons, List.drop_zero, List.take_succ_cons, List.take_zero, Nat.reduceAdd])) | (refine m_load1 rfl _ _ rfl rfl X (.tail _ (.head _)) rfl ?_; (simp only [Act.put, List.setIfInBounds_toArray, List.set_cons_succ, List.set_cons_zero, List.drop_succ_cons, List.drop_zero, List.take_succ_cons, List.take_zero, Nat.reduceAdd])) | (refine m_load1 rfl _ _ rfl rfl X (.tail _ (.tail _ (.head _))) rfl ?_; (simp only [Act.put, List.setIfInBounds_toArray, List.set_cons_succ, List.set_cons_zero, List.drop_succ_cons, List.drop_zero, List.take_succ_cons, List.take_zero, Nat.reduceAdd])) | (refine m_load1 rfl _ _ rfl rfl X (.tail _ (.tail _ (.tail _ (.head _)))) rfl ?_; (simp only [Act.put, List.setIfInBounds_toArray, List.set_cons_succ, List.set_cons_zero, List.drop_succ_cons, List.drop_zero, List.take_succ_cons, List.take_zero, Nat.reduceAdd])) | (refine m_load1 rfl _ _ rfl rfl X (.tail _ (.tail _ (.tail _ (.tail _ (.head _))))) rfl ?_; (simp only [Act.put, List.setIfInBounds_toArray, List.set_cons_succ, List.set_cons_zero, List.drop_succ_cons, List.drop_zero, List.take_succ_cons, List.take_zero, Nat.reduceAdd])) | (refine m_load1 rfl _ _ rfl rfl X (.tail _ (.tail _ (.tail _ (.tail _ (.tail _ (.head _)))))) rfl ?_; (simp only [Act.put, List.setIfInBounds_toArray, List.set_cons_succ, List.set_cons_zero, List.drop_succ_cons, List.drop_zero, List.take_succ_cons, List.take_zero, Nat.reduceAdd])) | (refine m_load1 rfl _ _ rfl rfl X (.tail _ (.tail _ (.tail _ (.tail _ (.tail _ (.tail _ (.head _))))))) rfl ?_; (simp only [Act.put, List.setIfInBounds_toArray, List.set_cons_succ, List.set_cons_zero, List.drop_succ_cons, List.drop_zero, List.take_succ_cons, List.take_zero, Nat.reduceAdd])) | (refine m_load1 rfl _ _ rfl rfl X (.tail _ (.tail _ (.tail _ (.tail _ (.tail _ (.tail _ (.tail _ (.head _)))))))) rfl ?_; (simp only [Act.put, List.setIfInBounds_toArray, List.set_cons_succ, List.set_cons_zero, List.drop_succ_cons, List.drop_zero, List.take_succ_cons, List.take_zero, Nat.reduceAdd])))) | (refine m_loadN rfl _ _ rfl rfl X (.head _) (Nat.le_of_ble_eq_true rfl) ?_; (simp only [Act.put, List.setIfInBounds_toArray, List.set_cons_succ, List.set_cons_zero, List.drop_succ_cons, List.drop_zero, List.take_succ_cons, List.take_zero, Nat.reduceAdd])) | (refine m_loadN rfl _ _ rfl rfl X (.tail _ (.head _)) (Nat.le_of_ble_eq_true rfl) ?_; (simp only [Act.put, List.setIfInBounds_toArray, List.set_cons_succ, List.set_cons_zero, List.drop_succ_cons, List.drop_zero, List.take_succ_cons, List.take_zero, Nat.reduceAdd])) | (refine m_loadN rfl _ _ rfl rfl X (.tail _ (.tail _ (.head _))) (Nat.le_of_ble_eq_true rfl) ?_; (simp only [Act.put, List.setIfInBounds_toArray, List.set_cons_succ, List.set_cons_zero, List.drop_succ_cons, List.drop_zero, List.take_succ_cons, List.take_zero, Nat.reduceAdd])) | (refine m_loadN rfl _ _ rfl rfl X (.tail _ (.tail _ (.tail _ (.head _)))) (Nat.le_of_ble_eq_true rfl) ?_; (simp only [Act.put, List.setIfInBounds_toArray, List.set_cons_succ, List.set_cons_zero, List.drop_succ_cons, List.drop_zero, List.take_succ_cons, List.take_zero, Nat.reduceAdd])) | (refine m_loadN rfl _ _ rfl rfl X (.tail _ (.tail _ (.tail _ (.tail _ (.head _))))) (Nat.le_of_ble_eq_true rfl) ?_; (simp only [Act.put, List.setIfInBounds_toArray, List.set_cons_succ, List.set_cons_zero, List.drop_succ_cons, List.drop_zero, List.take_succ_cons, List.take_zero, Nat.reduceAdd])) | (refine m_loadN rfl _ _ rfl rfl X (.tail _ (.tail _ (.tail _ (.tail _ (.tail _ (.head _)))))) (Nat.le_of_ble_eq_true rfl) ?_; (simp only [Act.put, List.setIfInBounds_toArray, List.set_cons_succ, List.set_cons_zero, List.drop_succ_cons, List.drop_zero, List.take_succ_cons, List.take_zero, Nat.reduceAdd])) | (refine m_loadN rfl _ _ rfl rfl X (.tail _ (.tail _ (.tail _ (.tail _ (.tail _ (.tail _ (.head _))))))) (Nat.le_of_ble_eq_true rfl) ?_; (simp only [Act.put, List.setIfInBounds_toArray, List.set_cons_succ, List.set_cons_zero, List.drop_succ_cons, List.drop_zero, List.take_succ_cons, List.take_zero, Nat.reduceAdd])) | (refine m_loadN rfl _ _ rfl rfl X (.tail _ (.tail _ (.tail _ (.tail _ (.tail _ (.tail _ (.tail _ (.head _)))))))) (Nat.le_of_ble_eq_true rfl) ?_; (simp only [Act.put, List.setIfInBounds_toArray, List.set_cons_succ, List.set_cons_zero, List.drop_succ_cons, List.drop_zero, List.take_succ_cons, List.take_zero, Nat.reduceAdd])))) | (refine at_store rfl ?_; (first | (refine at_store1 _ _ _ rfl ?_; (first | (refine m_store1 [] _ rfl _ _ _ rfl rfl (by first | exact EvR.const _ | exact EvR.tmp rfl rfl) X (Nat.le_of_ble_eq_true rfl) rfl rfl ?_; intro w X2; (try simp only [upd, List.nil_append, List.cons_append] at X2); replace X := X2; clear X2; (simp only [Act.put, List.setIfInBounds_toArray, List.set_cons_succ, List.set_cons_zero, List.drop_succ_cons, List.drop_zero, List.take_succ_cons, List.take_zero, Nat.reduceAdd])) | (refine m_store1 [_] _ rfl _ _ _ rfl rfl (by first | exact EvR.const _ | exact EvR.tmp rfl rfl) X (Nat.le_of_ble_eq_true rfl) rfl rfl ?_; intro w X2; (try simp only [upd, List.nil_append, List.cons_append] at X2); replace X := X2; clear X2; (simp only [Act.put, List.setIfInBounds_toArray, List.set_cons_succ, List.set_cons_zero, List.drop_succ_cons, List.drop_zero, List.take_succ_cons, List.take_zero, Nat.reduceAdd])) | (refine m_store1 [_, _] _ rfl _ _ _ rfl rfl (by first | exact EvR.const _ | exact EvR.tmp rfl rfl) X (Nat.le_of_ble_eq_true rfl) rfl rfl ?_; intro w X2; (try simp only [upd, List.nil_append, List.cons_append] at X2); replace X := X2; clear X2; (simp only [Act.put, List.setIfInBounds_toArray, List.set_cons_succ, List.set_cons_zero, List.drop_succ_cons, List.drop_zero, List.take_succ_cons, List.take_zero, Nat.reduceAdd])) | (refine m_store1 [_, _, _] _ rfl _ _ _ rfl rfl (by first | exact EvR.const _ | exact EvR.tmp rfl rfl) X (Nat.le_of_ble_eq_true rfl) rfl rfl ?_; intro w X2; (try simp only [upd, List.nil_append, List.cons_append] at X2); replace X := X2; clear X2; (simp only [Act.put, List.setIfInBounds_toArray, List.set_cons_succ, List.set_cons_zero, List.drop_succ_cons, List.drop_zero, List.take_succ_cons, List.take_zero, Nat.reduceAdd])) | (refine m_store1 [_, _, _, _] _ rfl _ _ _ rfl rfl (by first | exact EvR.const _ | exact EvR.tmp rfl rfl) X (Nat.le_of_ble_eq_true rfl) rfl rfl ?_; intro w X2; (try simp only [upd, List.nil_append, List.cons_append] at X2); replace X := X2; clear X2; (simp only [Act.put, List.setIfInBounds_toArray, List.set_cons_succ, List.set_cons_zero, List.drop_succ_cons, List.drop_zero, List.take_succ_cons, List.take_zero, Nat.reduceAdd])) | (refine m_store1 [_, _, _, _, _] _ rfl _ _ _ rfl rfl (by first | exact EvR.const _ | exact EvR.tmp rfl rfl) X (Nat.le_of_ble_eq_true rfl) rfl rfl ?_; intro w X2; (try simp only [upd, List.nil_append, List.cons_append] at X2); replace X := X2; clear X2; (simp only [Act.put, List.setIfInBounds_toArray, List.set_cons_succ, List.set_cons_zero, List.drop_succ_cons, List.drop_zero, List.take_succ_cons, List.take_zero, Nat.reduceAdd])) | (refine m_store1 [_, _, _, _, _, _] _ rfl _ _ _ rfl rfl (by first | exact EvR.const _ | exact EvR.tmp rfl rfl) X (Nat.le_of_ble_eq_true rfl) rfl rfl ?_; intro w X2; (try simp only [upd, List.nil_append, List.cons_append] at X2); replace X := X2; clear X2; (simp only [Act.put, List.setIfInBounds_toArray, List.set_cons_succ, List.set_cons_zero, List.drop_succ_cons, List.drop_zero, List.take_succ_cons, List.take_zero, Nat.reduceAdd])) | (refine m_store1 [_, _, _, _, _, _, _] _ rfl _ _ _ rfl rfl (by first | exact EvR.const _ | exact EvR.tmp rfl rfl) X (Nat.le_of_ble_eq_true rfl) rfl rfl ?_; intro w X2; (try simp only [upd, List.nil_append, List.cons_append] at X2); replace X := X2; clear X2; (simp only [Act.put, List.setIfInBounds_toArray, List.set_cons_succ, List.set_cons_zero, List.drop_succ_cons, List.drop_zero, List.take_succ_cons, List.take_zero, Nat.reduceAdd])))) | (refine m_storeN [] _ rfl _ _ _ rfl rfl rfl X rfl (Nat.le_of_ble_eq_true rfl) rfl ?_; intro w X2; (try simp only [upd, List.nil_append, List.cons_append] at X2); replace X := X2; clear X2; (simp only [Act.put, List.setIfInBounds_toArray, List.set_cons_succ, List.set_cons_zero, List.drop_succ_cons, List.drop_zero, List.take_succ_cons, List.take_zero, Nat.reduceAdd])) | (refine m_storeN [_] _ rfl _ _ _ rfl rfl rfl X rfl (Nat.le_of_ble_eq_true rfl) rfl ?_; intro w X2; (try simp only [upd, List.nil_append, List.cons_append] at X2); replace X := X2; clear X2; (simp only [Act.put, List.setIfInBounds_toArray, List.set_cons_succ, List.set_cons_zero, List.drop_succ_cons, List.drop_zero, List.take_succ_cons, List.take_zero, Nat.reduceAdd])) | (refine m_storeN [_, _] _ rfl _ _ _ rfl rfl rfl X rfl (Nat.le_of_ble_eq_true rfl) rfl ?_; intro w X2; (try simp only [upd, List.nil_append, List.cons_append] at X2); replace X := X2; clear X2; (simp only [Act.put, List.setIfInBounds_toArray, List.set_cons_succ, List.set_cons_zero, List.drop_succ_cons, List.drop_zero, List.take_succ_cons, List.take_zero, Nat.reduceAdd])) | (refine m_storeN [_, _, _] _ rfl _ _ _ rfl rfl rfl X rfl (Nat.le_of_ble_eq_true rfl) rfl ?_; intro w X2; (try simp only [upd, List.nil_append, List.cons_append] at X2); replace X := X2; clear X2; (simp only [Act.put, List.setIfInBounds_toArray, List.set_cons_succ, List.set_cons_zero, List.drop_succ_cons, List.drop_zero, List.take_succ_cons, List.take_zero, Nat.reduceAdd])) | (refine m_storeN [_, _, _, _] _ rfl _ _ _ rfl rfl rfl X rfl (Nat.le_of_ble_eq_true rfl) rfl ?_; intro w X2; (try simp only [upd, List.nil_append, List.cons_append] at X2); replace X := X2; clear X2; (simp only [Act.put, List.setIfInBounds_toArray, List.set_cons_succ, List.set_cons_zero, List.drop_succ_cons, List.drop_zero, List.take_succ_cons, List.take_zero, Nat.reduceAdd])) | (refine m_storeN [_, _, _, _, _] _ rfl _ _ _ rfl rfl rfl X rfl (Nat.le_of_ble_eq_true rfl) rfl ?_; intro w X2; (try simp only [upd, List.nil_append, List.cons_append] at X2); replace X := X2; clear X2; (simp only [Act.put, List.setIfInBounds_toArray, List.set_cons_succ, List.set_cons_zero, List.drop_succ_cons, List.drop_zero, List.take_succ_cons, List.take_zero, Nat.reduceAdd])) | (refine m_storeN [_, _, _, _, _, _] _ rfl _ _ _ rfl rfl rfl X rfl (Nat.le_of_ble_eq_true rfl) rfl ?_; intro w X2; (try simp only [upd, List.nil_append, List.cons_append] at X2); replace X := X2; clear X2; (simp only [Act.put, List.setIfInBounds_toArray, List.set_cons_succ, List.set_cons_zero, List.drop_succ_cons, List.drop_zero, List.take_succ_cons, List.take_zero, Nat.reduceAdd])) | (refine m_storeN [_, _, _, _, _, _, _] _ rfl _ _ _ rfl rfl rfl X rfl (Nat.le_of_ble_eq_true rfl) rfl ?_; intro w X2; (try simp only [upd, List.nil_append, List.cons_append] at X2); replace X := X2; clear X2; (simp only [Act.put, List.setIfInBounds_toArray, List.set_cons_succ, List.set_cons_zero, List.drop_succ_cons, List.drop_zero, List.take_succ_cons, List.take_zero, Nat.reduceAdd])))) | (first | (refine m_alloc rfl _ rfl X ?_; intro g w X2; (try simp only [upd, List.nil_append, List.cons_append] at X2); replace X := X2; clear X2; (simp only [Act.put, List.setIfInBounds_toArray, List.set_cons_succ, List.set_cons_zero, List.drop_succ_cons, List.drop_zero, List.take_succ_cons, List.take_zero, Nat.reduceAdd])) | (refine m_box rfl _ _ rfl (by first | exact EvR.const _ | exact EvR.tmp rfl rfl) rfl X ?_; intro g w X2; (try simp only [upd, List.nil_append, List.cons_append] at X2); replace X := X2; clear X2; (simp only [Act.put, List.setIfInBounds_toArray, List.set_cons_succ, List.set_cons_zero, List.drop_succ_cons, List.drop_zero, List.take_succ_cons, List.take_zero, Nat.reduceAdd]))))) | (go_at_call 89; go_loud ((with_reducible refine (hMay.out _ X.below).mono ?_); rintro e w1 ⟨rfl, hb1⟩; replace X := X.call hb1; clear hb1)))
  exact m_ret2 rfl (.tmp rfl rfl) (.tmp rfl rfl) X (.head _) rfl rfl ⟨rfl, X.below⟩

theorem txn_Change_go (t : Txn) (h b : Int) (s : ByteArray) (vm vd vr : Value) (w : World) (ht : RTxn w (txnV t vm vd vr) t) (hz : mayE t h b = 0) :
    Calls Try.prog 73 #[txnV t vm vd vr, .int .i64 h, .int .i64 b, .string s] w fun e w' => ∃ vm' vd' vr', e = .returned (.tuple #[txnV (chgT t h b s) vm' vd' vr', .int .i64 (chgE t h b s)]) ∧ NewT w.heap.size w' vm vd vr vm' vd' vr' t (chgT t h b s) ∧ Below w.heap.size w w' := by
  have hMay := fun w' (hb : Below w.heap.size w w') => txn_may t h b _ w' (ht.below hb)
  rw [hz] at hMay
  obtain ⟨hgt, hh, ho, hb⟩ := may_zero hz
  have hg := goodT_of.1 hgt
  obtain ⟨vm', vd', vr', hvv, hm, hd, hr, n1, n2, n3⟩ := ht
  simp only [txnV, Value.agg.injEq, Array.mk.injEq, List.cons.injEq, and_true, true_and] at hvv
  obtain ⟨rfl, rfl, rfl⟩ := hvv
  obtain ⟨am, cm, rfl, _⟩ := hm.form
  obtain ⟨ad, cd, rfl, _⟩ := hd.form
  obtain ⟨ar, cr, rfl, _⟩ := hr.form
  obtain ⟨l1, l2, l3⟩ := lens hg
  have hHas := fun w' (hb : Below w.heap.size w w') => txn_has t.dt b _ w' (copies_rise hg.dt) (hd.below hb) (by omega)
  have hPay := fun w' g (hb : Below w.heap.size w w') k0 => txn_pay t am ad ar cm cd cr h b g w' k0 hg (hm.below hb) (hr.below hb) hh
  have hCl := fun w' (hb : Below w.heap.size w w') => slices_CloneI t.rev _ w' (hr.below hb) (by omega)
  have hDel := fun v w' gb base h1 h2 h3 h4 => slices_DeleteFuncI t.rev b v gb base w' h1 h2 h3 h4 (by omega)
  have hPut := fun w' (hb : Below w.heap.size w w') => txn_put t.mt b s _ w' (copies_rise hg.mt) (hm.below hb) (by omega)
  have hoff : t.rev.filter (fun x => !(x == b)) = offI t.rev b := by unfold offI; congr 1
  obtain ⟨D, hD⟩ : ∃ D, hasB t.dt b = D := ⟨_, rfl⟩
  obtain ⟨E, hE⟩ : ∃ E, payE t h b = E := ⟨_, rfl⟩
  rw [hD] at hHas
  rw [hE] at hPay
  simp only [txnL] at hPay
  simp only [hoff] at hDel
  obtain ⟨_, pm, pd, pr⟩ := payU_same t h b
  generalize hU : payU t h b = U at *
  replace hMay := hid hMay; replace hHas := hid hHas; replace hPay := hid hPay; replace hCl := hid hCl; replace hDel := hid hDel; replace hPut := hid hPut; replace hD := hid hD; replace hE := hid hE; replace hz := hid hz; replace hd := hid hd; replace hU := hid hU; replace pd := hid pd
  clear hm hr hgt ho hb hoff pm pr
  unfold txnV at hMay ⊢
  have X := St.start [] w
  go_enter Try.func73, Try.ntmps73
  go_wp2_with (first
    | (refine at_mem rfl ?_; (first | (refine at_load rfl ?_; (first | (refine at_load1 _ _ rfl ?_; (first | (refine m_load1 rfl _ _ rfl rfl X (.head _) rfl ?_; (simp only [Act.put, List.setIfInBounds_toArray, List.set_cons_succ, List.set_cons_zero, List.drop_succ_cons, List.drop_zero, List.take_succ_cons, List.take_zero, Nat.reduceAdd])) | (refine m_load1 rfl _ _ rfl rfl X (.tail _ (.head _)) rfl ?_; (simp only [Act.put, List.setIfInBounds_toArray, List.set_cons_succ, List.set_cons_zero, List.drop_succ_cons, List.drop_zero, List.take_succ_cons, List.take_zero, Nat.reduceAdd])) | (refine m_load1 rfl _ _ rfl rfl X (.tail _ (.tail _ (.head _))) rfl ?_; (simp only [Act.put, List.setIfInBounds_toArray, List.set_cons_succ, List.set_cons_zero, List.drop_succ_cons, List.drop_zero, List.take_succ_cons, List.take_zero, Nat.reduceAdd])) | (refine m_load1 rfl _ _ rfl rfl X (.tail _ (.tail _ (.tail _ (.head _)))) rfl ?_; (simp only [Act.put, List.setIfInBounds_toArray, List.set_cons_succ, List.set_cons_zero, List.drop_succ_cons, List.drop_zero, List.take_succ_cons, List.take_zero, Nat.reduceAdd])) | (refine m_load1 rfl _ _ rfl rfl X (.tail _ (.tail _ (.tail _ (.tail _ (.head _))))) rfl ?_; (simp only [Act.put, List.setIfInBounds_toArray, List.set_cons_succ, List.set_cons_zero, List.drop_succ_cons, List.drop_zero, List.take_succ_cons, List.take_zero, Nat.reduceAdd])) | (refine m_load1 rfl _ _ rfl rfl X (.tail _ (.tail _ (.tail _ (.tail _ (.tail _ (.head _)))))) rfl ?_; (simp only [Act.put, List.setIfInBounds_toArray, List.set_cons_succ, List.set_cons_zero, List.drop_succ_cons, List.drop_zero, List.take_succ_cons, List.take_zero, Nat.reduceAdd])) | (refine m_load1 rfl _ _ rfl rfl X (.tail _ (.tail _ (.tail _ (.tail _ (.tail _ (.tail _ (.head _))))))) rfl ?_; (simp only [Act.put, List.setIfInBounds_toArray, List.set_cons_succ, List.set_cons_zero, List.drop_succ_cons, List.drop_zero, List.take_succ_cons, List.take_zero, Nat.reduceAdd])) | (refine m_load1 rfl _ _ rfl rfl X (.tail _ (.tail _ (.tail _ (.tail _ (.tail _ (.tail _ (.tail _ (.head _)))))))) rfl ?_; (simp only [Act.put, List.setIfInBounds_toArray, List.set_cons_succ, List.set_cons_zero, List.drop_succ_cons, List.drop_zero, List.take_succ_cons, List.take_zero, Nat.reduceAdd])))) | (refine m_loadN rfl _ _ rfl rfl X (.head _) (Nat.le_of_ble_eq_true rfl) ?_; (simp only [Act.put, List.setIfInBounds_toArray, List.set_cons_succ, List.set_cons_zero, List.drop_succ_cons, List.drop_zero, List.take_succ_cons, List.take_zero, Nat.reduceAdd])) | (refine m_loadN rfl _ _ rfl rfl X (.tail _ (.head _)) (Nat.le_of_ble_eq_true rfl) ?_; (simp only [Act.put, List.setIfInBounds_toArray, List.set_cons_succ, List.set_cons_zero, List.drop_succ_cons, List.drop_zero, List.take_succ_cons, List.take_zero, Nat.reduceAdd])) | (refine m_loadN rfl _ _ rfl rfl X (.tail _ (.tail _ (.head _))) (Nat.le_of_ble_eq_true rfl) ?_; (simp only [Act.put, List.setIfInBounds_toArray, List.set_cons_succ, List.set_cons_zero, List.drop_succ_cons, List.drop_zero, List.take_succ_cons, List.take_zero, Nat.reduceAdd])) | (refine m_loadN rfl _ _ rfl rfl X (.tail _ (.tail _ (.tail _ (.head _)))) (Nat.le_of_ble_eq_true rfl) ?_; (simp only [Act.put, List.setIfInBounds_toArray, List.set_cons_succ, List.set_cons_zero, List.drop_succ_cons, List.drop_zero, List.take_succ_cons, List.take_zero, Nat.reduceAdd])) | (refine m_loadN rfl _ _ rfl rfl X (.tail _ (.tail _ (.tail _ (.tail _ (.head _))))) (Nat.le_of_ble_eq_true rfl) ?_; (simp only [Act.put, List.setIfInBounds_toArray, List.set_cons_succ, List.set_cons_zero, List.drop_succ_cons, List.drop_zero, List.take_succ_cons, List.take_zero, Nat.reduceAdd])) | (refine m_loadN rfl _ _ rfl rfl X (.tail _ (.tail _ (.tail _ (.tail _ (.tail _ (.head _)))))) (Nat.le_of_ble_eq_true rfl) ?_; (simp only [Act.put, List.setIfInBounds_toArray, List.set_cons_succ, List.set_cons_zero, List.drop_succ_cons, List.drop_zero, List.take_succ_cons, List.take_zero, Nat.reduceAdd])) | (refine m_loadN rfl _ _ rfl rfl X (.tail _ (.tail _ (.tail _ (.tail _ (.tail _ (.tail _ (.head _))))))) (Nat.le_of_ble_eq_true rfl) ?_; (simp only [Act.put, List.setIfInBounds_toArray, List.set_cons_succ, List.set_cons_zero, List.drop_succ_cons, List.drop_zero, List.take_succ_cons, List.take_zero, Nat.reduceAdd])) | (refine m_loadN rfl _ _ rfl rfl X (.tail _ (.tail _ (.tail _ (.tail _ (.tail _ (.tail _ (.tail _ (.head _)))))))) (Nat.le_of_ble_eq_true rfl) ?_; (simp only [Act.put, List.setIfInBounds_toArray, List.set_cons_succ, List.set_cons_zero, List.drop_succ_cons, List.drop_zero, List.take_succ_cons, List.take_zero, Nat.reduceAdd])))) | (refine at_store rfl ?_; (first | (refine at_store1 _ _ _ rfl ?_; (first | (refine m_store1 [] _ rfl _ _ _ rfl rfl (by first | exact EvR.const _ | exact EvR.tmp rfl rfl) X (Nat.le_of_ble_eq_true rfl) rfl rfl ?_; intro w X2; (try simp only [upd, List.nil_append, List.cons_append] at X2); replace X := X2; clear X2; (simp only [Act.put, List.setIfInBounds_toArray, List.set_cons_succ, List.set_cons_zero, List.drop_succ_cons, List.drop_zero, List.take_succ_cons, List.take_zero, Nat.reduceAdd])) | (refine m_store1 [_] _ rfl _ _ _ rfl rfl (by first | exact EvR.const _ | exact EvR.tmp rfl rfl) X (Nat.le_of_ble_eq_true rfl) rfl rfl ?_; intro w X2; (try simp only [upd, List.nil_append, List.cons_append] at X2); replace X := X2; clear X2; (simp only [Act.put, List.setIfInBounds_toArray, List.set_cons_succ, List.set_cons_zero, List.drop_succ_cons, List.drop_zero, List.take_succ_cons, List.take_zero, Nat.reduceAdd])) | (refine m_store1 [_, _] _ rfl _ _ _ rfl rfl (by first | exact EvR.const _ | exact EvR.tmp rfl rfl) X (Nat.le_of_ble_eq_true rfl) rfl rfl ?_; intro w X2; (try simp only [upd, List.nil_append, List.cons_append] at X2); replace X := X2; clear X2; (simp only [Act.put, List.setIfInBounds_toArray, List.set_cons_succ, List.set_cons_zero, List.drop_succ_cons, List.drop_zero, List.take_succ_cons, List.take_zero, Nat.reduceAdd])) | (refine m_store1 [_, _, _] _ rfl _ _ _ rfl rfl (by first | exact EvR.const _ | exact EvR.tmp rfl rfl) X (Nat.le_of_ble_eq_true rfl) rfl rfl ?_; intro w X2; (try simp only [upd, List.nil_append, List.cons_append] at X2); replace X := X2; clear X2; (simp only [Act.put, List.setIfInBounds_toArray, List.set_cons_succ, List.set_cons_zero, List.drop_succ_cons, List.drop_zero, List.take_succ_cons, List.take_zero, Nat.reduceAdd])) | (refine m_store1 [_, _, _, _] _ rfl _ _ _ rfl rfl (by first | exact EvR.const _ | exact EvR.tmp rfl rfl) X (Nat.le_of_ble_eq_true rfl) rfl rfl ?_; intro w X2; (try simp only [upd, List.nil_append, List.cons_append] at X2); replace X := X2; clear X2; (simp only [Act.put, List.setIfInBounds_toArray, List.set_cons_succ, List.set_cons_zero, List.drop_succ_cons, List.drop_zero, List.take_succ_cons, List.take_zero, Nat.reduceAdd])) | (refine m_store1 [_, _, _, _, _] _ rfl _ _ _ rfl rfl (by first | exact EvR.const _ | exact EvR.tmp rfl rfl) X (Nat.le_of_ble_eq_true rfl) rfl rfl ?_; intro w X2; (try simp only [upd, List.nil_append, List.cons_append] at X2); replace X := X2; clear X2; (simp only [Act.put, List.setIfInBounds_toArray, List.set_cons_succ, List.set_cons_zero, List.drop_succ_cons, List.drop_zero, List.take_succ_cons, List.take_zero, Nat.reduceAdd])) | (refine m_store1 [_, _, _, _, _, _] _ rfl _ _ _ rfl rfl (by first | exact EvR.const _ | exact EvR.tmp rfl rfl) X (Nat.le_of_ble_eq_true rfl) rfl rfl ?_; intro w X2; (try simp only [upd, List.nil_append, List.cons_append] at X2); replace X := X2; clear X2; (simp only [Act.put, List.setIfInBounds_toArray, List.set_cons_succ, List.set_cons_zero, List.drop_succ_cons, List.drop_zero, List.take_succ_cons, List.take_zero, Nat.reduceAdd])) | (refine m_store1 [_, _, _, _, _, _, _] _ rfl _ _ _ rfl rfl (by first | exact EvR.const _ | exact EvR.tmp rfl rfl) X (Nat.le_of_ble_eq_true rfl) rfl rfl ?_; intro w X2; (try simp only [upd, List.nil_append, List.cons_append] at X2); replace X := X2; clear X2; (simp only [Act.put, List.setIfInBounds_toArray, List.set_cons_succ, List.set_cons_zero, List.drop_succ_cons, List.drop_zero, List.take_succ_cons, List.take_zero, Nat.reduceAdd])))) | (refine m_storeN [] _ rfl _ _ _ rfl rfl rfl X rfl (Nat.le_of_ble_eq_true rfl) rfl ?_; intro w X2; (try simp only [upd, List.nil_append, List.cons_append] at X2); replace X := X2; clear X2; (simp only [Act.put, List.setIfInBounds_toArray, List.set_cons_succ, List.set_cons_zero, List.drop_succ_cons, List.drop_zero, List.take_succ_cons, List.take_zero, Nat.reduceAdd])) | (refine m_storeN [_] _ rfl _ _ _ rfl rfl rfl X rfl (Nat.le_of_ble_eq_true rfl) rfl ?_; intro w X2; (try simp only [upd, List.nil_append, List.cons_append] at X2); replace X := X2; clear X2; (simp only [Act.put, List.setIfInBounds_toArray, List.set_cons_succ, List.set_cons_zero, List.drop_succ_cons, List.drop_zero, List.take_succ_cons, List.take_zero, Nat.reduceAdd])) | (refine m_storeN [_, _] _ rfl _ _ _ rfl rfl rfl X rfl (Nat.le_of_ble_eq_true rfl) rfl ?_; intro w X2; (try simp only [upd, List.nil_append, List.cons_append] at X2); replace X := X2; clear X2; (simp only [Act.put, List.setIfInBounds_toArray, List.set_cons_succ, List.set_cons_zero, List.drop_succ_cons, List.drop_zero, List.take_succ_cons, List.take_zero, Nat.reduceAdd])) | (refine m_storeN [_, _, _] _ rfl _ _ _ rfl rfl rfl X rfl (Nat.le_of_ble_eq_true rfl) rfl ?_; intro w X2; (try simp only [upd, List.nil_append, List.cons_append] at X2); replace X := X2; clear X2; (simp only [Act.put, List.setIfInBounds_toArray, List.set_cons_succ, List.set_cons_zero, List.drop_succ_cons, List.drop_zero, List.take_succ_cons, List.take_zero, Nat.reduceAdd])) | (refine m_storeN [_, _, _, _] _ rfl _ _ _ rfl rfl rfl X rfl (Nat.le_of_ble_eq_true rfl) rfl ?_; intro w X2; (try simp only [upd, List.nil_append, List.cons_append] at X2); replace X := X2; clear X2; (simp only [Act.put, List.setIfInBounds_toArray, List.set_cons_succ, List.set_cons_zero, List.drop_succ_cons, List.drop_zero, List.take_succ_cons, List.take_zero, Nat.reduceAdd])) | (refine m_storeN [_, _, _, _, _] _ rfl _ _ _ rfl rfl rfl X rfl (Nat.le_of_ble_eq_true rfl) rfl ?_; intro w X2; (try simp only [upd, List.nil_append, List.cons_append] at X2); replace X := X2; clear X2; (simp only [Act.put, List.setIfInBounds_toArray, List.set_cons_succ, List.set_cons_zero, List.drop_succ_cons, List.drop_zero, List.take_succ_cons, List.take_zero, Nat.reduceAdd])) | (refine m_storeN [_, _, _, _, _, _] _ rfl _ _ _ rfl rfl rfl X rfl (Nat.le_of_ble_eq_true rfl) rfl ?_; intro w X2; (try simp only [upd, List.nil_append, List.cons_append] at X2); replace X := X2; clear X2; (simp only [Act.put, List.setIfInBounds_toArray, List.set_cons_succ, List.set_cons_zero, List.drop_succ_cons, List.drop_zero, List.take_succ_cons, List.take_zero, Nat.reduceAdd])) | (refine m_storeN [_, _, _, _, _, _, _] _ rfl _ _ _ rfl rfl rfl X rfl (Nat.le_of_ble_eq_true rfl) rfl ?_; intro w X2; (try simp only [upd, List.nil_append, List.cons_append] at X2); replace X := X2; clear X2; (simp only [Act.put, List.setIfInBounds_toArray, List.set_cons_succ, List.set_cons_zero, List.drop_succ_cons, List.drop_zero, List.take_succ_cons, List.take_zero, Nat.reduceAdd])))) | (first | (refine m_alloc rfl _ rfl X ?_; intro g w X2; (try simp only [upd, List.nil_append, List.cons_append] at X2); replace X := X2; clear X2; (simp only [Act.put, List.setIfInBounds_toArray, List.set_cons_succ, List.set_cons_zero, List.drop_succ_cons, List.drop_zero, List.take_succ_cons, List.take_zero, Nat.reduceAdd])) | (refine m_box rfl _ _ rfl (by first | exact EvR.const _ | exact EvR.tmp rfl rfl) rfl X ?_; intro g w X2; (try simp only [upd, List.nil_append, List.cons_append] at X2); replace X := X2; clear X2; (simp only [Act.put, List.setIfInBounds_toArray, List.set_cons_succ, List.set_cons_zero, List.drop_succ_cons, List.drop_zero, List.take_succ_cons, List.take_zero, Nat.reduceAdd])))))
    | (go_at_call 89; go_loud ((with_reducible refine (hMay.out _ X.below).mono ?_); rintro e w1 ⟨rfl, hb1⟩; replace X := X.call hb1; clear hb1))
    | (go_at_call 69; go_loud ((with_reducible refine (hHas.out _ X.below).mono ?_); rintro e w1 ⟨rfl, hb1⟩; replace X := X.call hb1; clear hb1))
    | (go_at_call 90; go_loud ((with_reducible refine (hPay.out _ _ X.below X.k0).mono ?_); rintro e w1 ⟨rfl, hk1, hm1⟩; have X2 := St.calledOn [] _ X hm1 hk1; clear hm1 hk1; replace X := X2; clear X2; simp only [List.nil_append] at X))
    | (go_at_call 92; go_loud ((with_reducible refine (hCl.out _ X.below).mono ?_); rintro e w1 ⟨v2, rfl, ho2, hb1⟩; obtain ⟨a2, c2, rfl⟩ := ho2.form; replace hDel := hid (hDel.out _ _ _ _ ho2 hb1.size X.k2.lt ((X.call hb1).k2.cell 0)); replace hb1 := hid hb1; clear ho2))
    | (go_at_call 91; go_loud ((with_reducible refine hDel.out.mono ?_); rintro e w2 ⟨v3, rfl, ho3, hb3⟩; obtain ⟨a3, c3, rfl⟩ := ho3.form; have f3 := hid (ho3.fresh X.mv.size); replace X := X.addOwn (hb1.out.trans hb3) ho3; clear hb1 hb3 ho3))
    | (go_at_call 94; go_loud ((with_reducible refine (hPut.out _ X.below).mono ?_); rintro e w1 ⟨v4, rfl, ho4, hb4⟩; obtain ⟨a4, c4, rfl⟩ := ho4.form; have f4 := hid (ho4.fresh X.mv.size); replace X := X.addOwn hb4 ho4; clear hb4 ho4)))
  · obtain ⟨e1, e2⟩ := chg_form (s := s) hz.out (ne32' (by assumption))
    rw [e1, e2]
    exact m_ret2 rfl (.tmp rfl rfl) (.tmp rfl rfl) X (.head _) rfl rfl ⟨_, _, _, rfl, .same _ _ _ _ _ _, X.below⟩
  all_goals have hs32 : s.size = 32 := ne32 (by assumption)
  · obtain ⟨e1, e2⟩ := chg_role hz.out hs32 (hD.out.trans ‹D = true›)
    rw [e1, e2]
    exact m_ret2 rfl (.tmp rfl rfl) (.tmp rfl rfl) X (.head _) rfl rfl ⟨_, _, _, rfl, .same _ _ _ _ _ _, X.below⟩
  · obtain ⟨e1, e2⟩ := chg_broke hz.out hs32 (hD.out.trans ‹D = false›) (by rw [hE.out]; simpa using ‹(E != 0) = true›)
    rw [e1, e2, hE.out]
    exact m_ret2 rfl (.tmp rfl rfl) (.tmp rfl rfl) X (.tail _ (.head _)) rfl rfl ⟨_, _, _, rfl, .same _ _ _ _ _ _, X.below⟩
  · have hE0 : E = 0 := by simpa using ‹(E != 0) = false›
    obtain ⟨e1, e2⟩ := chg_ok hz.out hs32 (hD.out.trans ‹D = false›) (hE.out.trans hE0)
    rw [e1, e2, hU.out]
    exact m_ret2 rfl (.tmp rfl rfl) (.tmp rfl rfl) X (.tail _ (.head _)) rfl rfl ⟨_, _, _, rfl, ⟨.inr ⟨X.r0, f4.out⟩, .inl ⟨rfl, pd.out⟩, .inr ⟨X.r1, f3.out⟩⟩, X.below⟩
theorem txn_Change (t : Txn) (h b : Int) (s : ByteArray) (vm vd vr : Value) (w : World) (ht : RTxn w (txnV t vm vd vr) t) :
    Calls Try.prog 73 #[txnV t vm vd vr, .int .i64 h, .int .i64 b, .string s] w fun e w' => ∃ vm' vd' vr', e = .returned (.tuple #[txnV (chgT t h b s) vm' vd' vr', .int .i64 (chgE t h b s)]) ∧ NewT w.heap.size w' vm vd vr vm' vd' vr' t (chgT t h b s) ∧ Below w.heap.size w w' := by
  by_cases hz : mayE t h b = 0
  · exact txn_Change_go t h b s vm vd vr w ht hz
  · obtain ⟨e1, e2⟩ := chg_may (s := s) hz
    refine (txn_Change_no t h b s _ w ht hz).mono ?_
    rintro e w' ⟨rfl, hb⟩
    rw [e1, e2]
    exact ⟨_, _, _, rfl, .same _ _ _ _ _ _, hb⟩
end Go.Proofs.Ytjhmfljlclajnab
