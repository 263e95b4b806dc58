/- Maps keyed by ints: what a block of a map holds, as a function. No program in sight. -/
import Derived.Test.YtjhmfljlclajnaaBase
import Derived.MapKept
import Derived.ChangeMaps5
import Derived.Carry
import Derived.Maps.OwnOps
namespace Wb
open Go Go.RowKit Go.MapKept

/-- Block b is a map that holds f. -/
def IMap (w : World) (b : Nat) (f : Int → Option Value) : Prop :=
  ∃ es clock, w.heap[b]? = some (.map es clock) ∧ Stamped es clock ∧ (∀ x ∈ es.toList, IsKey (.int .i64) x.key) ∧ ∀ k v, f k = some v ↔ ∃ x ∈ es.toList, x.key = .int .i64 k ∧ x.val = v
section
variable {w w' : World} {b : Nat} {f : Int → Option Value} {P : Program} {t kt e : TypeId}
theorem IMap.lt (h : IMap w b f) : b < w.heap.size := by
  obtain ⟨es, c, h1, _⟩ := h
  exact (Array.getElem?_eq_some_iff.1 h1).1
theorem IMap.below {B : Nat} (h : IMap w b f) (hb : Below B w w') (hlt : b < B) : IMap w' b f := by
  obtain ⟨es, c, h1, r⟩ := h
  exact ⟨es, c, (hb.block b hlt).trans h1, r⟩
theorem IMap.step (h : IMap w b f) (hb : Below w.heap.size w w') : IMap w' b f := h.below hb h.lt
theorem IMap.drewN (h : IMap w b f) (n : Nat) : IMap (w.drewN n) b f := h
theorem IMap.drew (h : IMap w b f) : IMap w.drew b f := h
theorem IMap.alloc (h : IMap w b f) (o : Obj) : IMap (w.alloc o) b f := by
  have hl := h.lt
  obtain ⟨es, c, h1, r⟩ := h
  exact ⟨es, c, (heap_alloc_old w o hl).trans h1, r⟩
theorem IMap.set_other (h : IMap w b f) (p : Addr) (v : Value) (hne : b ≠ p.block) : IMap (w.setCell p v) b f := by
  obtain ⟨es, c, h1, r⟩ := h
  exact ⟨es, c, (Below.heap_setCell w p v b hne).trans h1, r⟩
theorem IMap.grown {row : Option Nat} (h : IMap w b f) (hg : w.grownBy w' row) (hne : some b ≠ row) : IMap w' b f := by
  have hl := h.lt
  obtain ⟨es, c, h1, r⟩ := h
  exact ⟨es, c, (hg.block b hl hne).trans h1, r⟩
theorem IMap.congr {g : Int → Option Value} (h : IMap w b f) (hfg : ∀ k, f k = g k) : IMap w b g := by
  obtain rfl : f = g := funext hfg
  exact h
theorem IMap.made (w : World) : IMap (w.alloc (.map #[] 0)) w.heap.size (fun _ => none) :=
  ⟨#[], 0, (MapKept.heap_alloc w _).1, stamped_empty 0, by simp, by simp⟩

theorem IMap.at_ {w : World} {b : Nat} {f : Int → Option Value} (h : IMap w b f) (k : Int) : ∃ es clock, w.heap[b]? = some (.map es clock) ∧
    ((f k = none ∧ Instr.findNow (.int .i64) (.int .i64 k) es.toList 0 = some none ∧ ∀ x ∈ es.toList, x.key ≠ .int .i64 k) ∨
     ∃ j x, Instr.findNow (.int .i64) (.int .i64 k) es.toList 0 = some (some (j, x.val)) ∧ es[j]? = some x ∧ x.key = .int .i64 k ∧ f k = some x.val) := by
  obtain ⟨es, c, h1, h2, h3, h4⟩ := h
  refine ⟨es, c, h1, ?_⟩
  rcases findNow_spec (d := .int .i64) (k := .int .i64 k) rfl es.toList 0 h3 with ⟨g1, g2⟩ | ⟨j, x, g1, g2, g3⟩
  · refine .inl ⟨?_, g1, g2⟩
    cases hf : f k with
    | none => rfl
    | some v =>
      obtain ⟨x, hx, hk, _⟩ := (h4 k v).1 hf
      exact absurd hk (g2 x hx)
  · rw [Nat.zero_add] at g1
    exact .inr ⟨j, x, g1, by simpa using g2, g3, (h4 k x.val).2 ⟨x, List.mem_of_getElem? g2, g3, rfl⟩⟩

/-- 'm[k]', 'v, ok := m[k]'. -/
theorem IMap.lookup (h : IMap w b f) (ht : P.underlying t = some (.map kt e)) (hk : P.underlying kt = some (.int .i64)) {z : Value} (hz : (zeroValue e).run P w = .ok z w) (k : Int) :
    (Instr.lookup t (.map (some b)) (.int .i64 k) false).run P w = .ok ((f k).getD z) w ∧
    (Instr.lookup t (.map (some b)) (.int .i64 k) true).run P w = .ok (.tuple #[(f k).getD z, .bool (f k).isSome]) w := by
  obtain ⟨es, c, h1, hh⟩ := h.at_ k
  have hc := fun n e' => run_checkKey (P := P) (w := w) hk (k := .int .i64 k) rfl e' n
  rcases hh with ⟨hf, g1, _⟩ | ⟨j, x, g1, g2, g3, hf⟩
  · have hfk := run_findKey (P := P) (w := w) hk g1
    rw [hf]
    constructor <;> simp [Instr.lookup, run_underlying ht, run_getObj_map h1, hc 9999, hfk, hz, Result.andThen]
  · have hfk := run_findKey (P := P) (w := w) hk g1
    rw [hf]
    constructor <;> simp [Instr.lookup, run_underlying ht, run_getObj_map h1, hc 9999, hfk, Result.andThen]

/-- A map that is nil. -/
theorem look_nil (ht : P.underlying t = some (.map kt e)) (hk : P.underlying kt = some (.int .i64)) {z : Value} (hz : (zeroValue e).run P w = .ok z w) (k : Int) :
    (Instr.lookup t (.map none) (.int .i64 k) false).run P w = .ok z w ∧ (Instr.lookup t (.map none) (.int .i64 k) true).run P w = .ok (.tuple #[z, .bool false]) w := by
  have hc := fun n e' => run_checkKey (P := P) (w := w) hk (k := .int .i64 k) rfl e' n
  have hfk := run_findKey (P := P) (w := w) (l := []) (k := .int .i64 k) (d := .int .i64) hk rfl
  constructor <;> simp [Instr.lookup, run_underlying ht, hc 9999, hfk, hz, Result.andThen]

/-- Nothing but block b has turned. -/
structure Turned (w w' : World) (b : Nat) : Prop where
  os : w'.os = w.os
  tape : w'.tape = w.tape
  output : w'.output = w.output
  size : w'.heap.size = w.heap.size
  block : ∀ i, i ≠ b → w'.heap[i]? = w.heap[i]?

theorem setBlock_turned {es : Array MapEntry} {c : Nat} (hb : w.heap[b]? = some (.map es c)) (o : Obj) : Turned w (ChangeMaps.setBlock w b o) b :=
  ⟨rfl, rfl, rfl, by simp [ChangeMaps.setBlock], fun i hi => ChangeMaps.heap_setBlock_other hb _ hi⟩
theorem Turned.blk (h : Turned w w' b) {g : Nat} {cs : Array Value} {ty : TypeId} (hg : Blk w g cs ty) (hne : g ≠ b) : Blk w' g cs ty := (h.block g hne).trans hg
theorem Turned.imap (h : Turned w w' b) {g : Nat} {f : Int → Option Value} (hg : IMap w g f) (hne : g ≠ b) : IMap w' g f := by
  obtain ⟨es, c, h1, r⟩ := hg
  exact ⟨es, c, (h.block g hne).trans h1, r⟩
theorem Turned.below (h : Turned w w' b) {W : World} {B : Nat} (hw : Below B W w) (hlt : B ≤ b) : Below B W w' :=
  ⟨h.os.trans hw.os, by rw [h.tape]; exact hw.tape, by rw [h.output]; exact hw.output, by rw [h.size]; exact hw.size, fun i hi => (h.block i (by omega)).trans (hw.block i hi)⟩
theorem Turned.grown (h : Turned w w' b) : w.grownBy w' (some b) := ⟨h.os, h.tape, h.output, by rw [h.size]; exact Nat.le_refl _, fun i hi hne => h.block i (fun hh => hne (by rw [hh]))⟩

/-- 'm[k] = v'. -/
theorem IMap.update (h : IMap w b f) (ht : P.underlying t = some (.map kt e)) (hk : P.underlying kt = some (.int .i64)) (k : Int) (v : Value) :
    ∃ w', (Instr.mapUpdate t (.map (some b)) (.int .i64 k) v).run P w = .ok () w' ∧ IMap w' b (fun x => if x = k then some v else f x) ∧ Turned w w' b := by
  obtain ⟨es, c, h1, h2, h3, h4⟩ := h
  have hc := fun n e' => run_checkKey (P := P) (w := w) hk (k := .int .i64 k) rfl e' n
  rcases findNow_spec (d := .int .i64) (k := .int .i64 k) rfl es.toList 0 h3 with ⟨g1, g2⟩ | ⟨j, x, g1, g2, g3⟩
  · have hfk := run_findKey (P := P) (w := w) hk g1
    refine ⟨ChangeMaps.setBlock w b (.map (es.push { key := .int .i64 k, val := v, born := c }) (c + 1)), ?_, ?_, setBlock_turned h1 _⟩
    · simp [Instr.mapUpdate, run_underlying ht, run_getObj_map h1, hc 9999, hfk, run_setObj_map _ h1, Result.andThen, ChangeMaps.setBlock]
    · refine ⟨_, _, ChangeMaps.heap_setBlock_same h1 _, stamped_push h2 g2, ?_, ?_⟩
      · intro y hy
        simp only [Array.toList_push, List.mem_append, List.mem_singleton] at hy
        rcases hy with hy | rfl
        · exact h3 y hy
        · rfl
      · intro q u
        simp only [Array.toList_push, List.mem_append, List.mem_singleton]
        by_cases hq : q = k
        · subst hq
          simp only [if_pos]
          constructor
          · intro hu
            cases hu
            exact ⟨_, .inr rfl, rfl, rfl⟩
          · rintro ⟨y, hy | rfl, e1, e2⟩
            · exact absurd e1 (g2 y hy)
            · simp at e2; rw [e2]
        · simp only [if_neg hq, h4 q u]
          constructor
          · rintro ⟨y, hy, e1, e2⟩
            exact ⟨y, .inl hy, e1, e2⟩
          · rintro ⟨y, hy | rfl, e1, e2⟩
            · exact ⟨y, hy, e1, e2⟩
            · simp at e1; exact absurd e1.symm hq
  · rw [Nat.zero_add] at g1
    have hj : es[j]? = some x := by simpa using g2
    have hfk := run_findKey (P := P) (w := w) hk g1
    have hkey : ∀ e', es[j]? = some e' → ({ e' with key := .int .i64 k, val := v } : MapEntry).key = e'.key := fun e' he' => by rw [hj] at he'; cases he'; exact g3.symm
    refine ⟨ChangeMaps.setBlock w b (.map (es.modify j fun e => { e with key := .int .i64 k, val := v }) c), ?_, ?_, setBlock_turned h1 _⟩
    · simp [Instr.mapUpdate, run_underlying ht, run_getObj_map h1, hc 9999, hfk, hj, g3, run_keyThatStays (d := .int .i64) (k := .int .i64 k) rfl, run_setObj_map _ h1, Result.andThen, ChangeMaps.setBlock]
    · have hst := stamped_modify h2 j (fun e => { e with key := .int .i64 k, val := v }) (fun _ _ => rfl) (fun e' _ he' => hkey e' he')
      refine ⟨_, _, ChangeMaps.heap_setBlock_same h1 _, hst, isKey_modify h3 _ _ hkey, ?_⟩
      have hmem : ∀ y, y ∈ (es.modify j fun e => { e with key := .int .i64 k, val := v }).toList ↔ (y = { x with key := .int .i64 k, val := v } ∨ ∃ i, i ≠ j ∧ es[i]? = some y) := by
        intro y
        rw [List.mem_iff_getElem?]
        simp only [Array.getElem?_toList, Array.getElem?_modify]
        constructor
        · rintro ⟨i, hi⟩
          by_cases hij : j = i
          · subst hij
            simp [hj] at hi
            exact .inl hi.symm
          · simp [hij] at hi
            exact .inr ⟨i, fun h => hij h.symm, hi⟩
        · rintro (rfl | ⟨i, hi, hy⟩)
          · exact ⟨j, by simp [hj]⟩
          · exact ⟨i, by simp [Ne.symm hi, hy]⟩
      have hun : ∀ i y, es[i]? = some y → y.key = .int .i64 k → i = j := by
        intro i y hi hy
        have hnd := h2.2.2
        have hi' : (es.toList.map (·.key))[i]? = some (.int .i64 k) := by simp [hi, hy]
        have hj' : (es.toList.map (·.key))[j]? = some (.int .i64 k) := by simp [hj, g3]
        have hil := (List.getElem?_eq_some_iff.1 hi').1
        exact (List.getElem?_inj hil hnd).1 (hi'.trans hj'.symm)
      intro q u
      by_cases hq : q = k
      · subst hq
        simp only [if_pos]
        constructor
        · intro hu
          cases hu
          exact ⟨_, (hmem _).2 (.inl rfl), rfl, rfl⟩
        · rintro ⟨y, hy, e1, e2⟩
          rcases (hmem y).1 hy with rfl | ⟨i, hi, hy⟩
          · simp at e2; rw [e2]
          · exact absurd (hun i y hy e1) hi
      · simp only [if_neg hq, h4 q u]
        constructor
        · rintro ⟨y, hy, e1, e2⟩
          obtain ⟨i, hi⟩ := List.mem_iff_getElem?.1 hy
          refine ⟨y, (hmem y).2 (.inr ⟨i, ?_, by simpa using hi⟩), e1, e2⟩
          rintro rfl
          rw [g2] at hi
          cases hi
          rw [g3] at e1
          simp at e1
          exact hq e1.symm
        · rintro ⟨y, hy, e1, e2⟩
          rcases (hmem y).1 hy with rfl | ⟨i, hi, hy⟩
          · simp at e1; exact absurd e1.symm hq
          · exact ⟨y, List.mem_iff_getElem?.2 ⟨i, by simpa using hy⟩, e1, e2⟩
end
end Wb
