/- Slices as lists of cells: readings that stay while the world grows. No program in sight. From a walk that returns true and leaves what was there to the statement's own form. Slices of the arguments, as lists. No program in sight. The plain data and what the functions compute on it. No program in sight. What arguments read as: from the form's own reading to the plain data. Marks as arguments. Bytes and strings. No program in sight. Disks. No program in sight. Transactions as plain data. No program in sight. Transactions as arguments. The copies without a block's, and with one. No program in sight. The newest copies, as plain lists. No program in sight. Places of blocks in lists that rise. No program in sight. -/
import Derived.WalkKit
import Derived.WalkSpells
import Derived.WalkLawsBesides
import Derived.Deep.Slices
import Derived.Deep.AppendSrc
import Derived.BigQuiet
import Derived.Test.YtjhmfljlclajnacRows
import Derived.ProofKit
import Derived.OpenShut
import Derived.Deep.DeepHandedRow
import Derived.LaidLaws
import Derived.Lib.SmallJoins
import Derived.SizedLaws
namespace Wb
open Go Go.RowKit

/-- A fact kept from the walk's rewriting. -/
theorem hid {p : Prop} (h : p) : Hid p := h

theorem ret_b {a b : Bool} (h : a = b) : Ending.returned (.bool a) = .returned (.bool b) := by rw [h]
theorem ret_i {k : IntKind} {a b : Int} (h : a = b) : Ending.returned (.int k a) = .returned (.int k b) := by rw [h]
theorem ret_t {x : Value} {a b : Int} {k : IntKind} (h : a = b) : Ending.returned (.tuple #[.int k a, x]) = .returned (.tuple #[.int k b, x]) := by rw [h]
theorem ret_s {a b : ByteArray} (h : a = b) : Ending.returned (.string a) = .returned (.string b) := by rw [h]

/-- The slice value v of n elements reads the cells cs in w. -/
def Sl (w : World) (v : Value) (n : Nat) (cs : List Value) : Prop :=
  ∃ a cap, v = .slice a n cap ∧ n ≤ cap ∧ cap ≤ maxLen ∧
    (cs = [] ∨ ∃ b off, a = some ⟨b, off, none⟩ ∧ ∀ j u, cs[j]? = some u → w.cell? ⟨b, off + j, none⟩ = some u)

theorem allocB {B : Nat} {a w : World} (h : Below B a w) (hB : B ≤ a.heap.size) (o : Obj) : Below B a (w.alloc o) := h.alloc (Nat.le_trans hB h.size) o

theorem cell_below {w w' : World} (hb : Below w.heap.size w w') {p : Addr} {u : Value} (h : w.cell? p = some u) : w'.cell? p = some u :=
  (hb.cell (World.block_lt_of_cell? w p h)).trans h

theorem Sl.below {w w' : World} {v : Value} {n : Nat} {cs : List Value} (h : Sl w v n cs) (hb : Below w.heap.size w w') : Sl w' v n cs := by
  obtain ⟨a, cap, hv, h1, h2, h3⟩ := h
  refine ⟨a, cap, hv, h1, h2, h3.imp id ?_⟩
  rintro ⟨b, off, ha, hc⟩
  exact ⟨b, off, ha, fun j u hj => cell_below hb (hc j u hj)⟩

/-- A slice of elements, each written as the cells f x. -/
def RL {α : Type} (f : α → List Value) (w : World) (v : Value) (l : List α) : Prop := Sl w v l.length (l.flatMap f)

theorem RL.below {α : Type} {f : α → List Value} {w w' : World} {v : Value} {l : List α} (h : RL f w v l) (hb : Below w.heap.size w w') : RL f w' v l := Sl.below h hb

theorem flat_get {α : Type} {f : α → List Value} {c : Nat} (hf : ∀ x, (f x).length = c) : ∀ (l : List α) (k : Nat) (x : α), l[k]? = some x → ∀ i u, (f x)[i]? = some u → (l.flatMap f)[k * c + i]? = some u
  | [], k, x, h, i, u, _ => by simp at h
  | y :: l, 0, x, h, i, u, hu => by
    simp at h; subst h
    rw [List.flatMap_cons, Nat.zero_mul, Nat.zero_add, List.getElem?_append_left]
    · exact hu
    · exact (List.getElem?_eq_some_iff.1 hu).1
  | y :: l, k + 1, x, h, i, u, hu => by
    have := flat_get hf l k x (by simpa using h) i u hu
    rw [List.flatMap_cons, List.getElem?_append_right (by rw [hf, Nat.succ_mul]; omega), hf]
    rw [show (k + 1) * c + i - c = k * c + i by rw [Nat.succ_mul]; omega]
    exact this

theorem flat_len {α : Type} {f : α → List Value} {c : Nat} (hf : ∀ x, (f x).length = c) (l : List α) : (l.flatMap f).length = l.length * c := by
  induction l with
  | nil => simp
  | cons y l ih => rw [List.flatMap_cons, List.length_append, ih, hf, List.length_cons, Nat.succ_mul]; omega

/-- Element k of a slice: where its cells stand. -/
theorem RL.at {α : Type} {f : α → List Value} {c : Nat} (hf : ∀ x, (f x).length = c) {w : World} {a : Option Addr} {n cap : Nat} {l : List α} (h : RL f w (.slice a n cap) l) {k : Nat} (hk : k < l.length) (h0 : 0 < c) :
    ∃ b off, a = some ⟨b, off, none⟩ ∧ ∀ i u, (f l[k])[i]? = some u → w.cell? ⟨b, off + k * c + i, none⟩ = some u := by
  obtain ⟨a', cap', hv, h1, h2, h3⟩ := h
  simp only [Value.slice.injEq] at hv
  obtain ⟨rfl, hn, rfl⟩ := hv
  have hl := flat_len hf l
  rcases h3 with h3 | ⟨b, off, ha, hc⟩
  · exfalso
    rw [h3] at hl
    have h4 : 0 < l.length * c := Nat.mul_pos (by omega) h0
    rw [← hl] at h4
    simp at h4
  · refine ⟨b, off, ha, fun i u hu => ?_⟩
    have := hc _ u (flat_get hf l k l[k] (by simp [hk]) i u hu)
    rw [← Nat.add_assoc] at this
    exact this

theorem RL.form {α : Type} {f : α → List Value} {w : World} {v : Value} {l : List α} (h : RL f w v l) : ∃ a cap, v = .slice a l.length cap ∧ l.length ≤ cap ∧ cap ≤ maxLen :=
  let ⟨a, cap, hv, h1, h2, _⟩ := h
  ⟨a, cap, hv, h1, h2⟩

theorem RL.at1 {α : Type} {f : α → List Value} {w : World} {a : Option Addr} {n cap : Nat} {l : List α} (g0 : α → Value) (hf : ∀ x, f x = [g0 x]) (h : RL f w (.slice a n cap) l) {k : Nat} (hk : k < l.length) :
    ∃ b off, a = some ⟨b, off, none⟩ ∧ w.cell? ⟨b, off + k, none⟩ = some (g0 l[k]) := by
  obtain ⟨b, off, ha, hc⟩ := RL.at (c := 1) (fun x => by rw [hf]; rfl) h hk (by decide)
  refine ⟨b, off, ha, ?_⟩
  have := hc 0 (g0 l[k]) (by rw [hf]; rfl)
  simpa using this
theorem RL.at2 {α : Type} {f : α → List Value} {w : World} {a : Option Addr} {n cap : Nat} {l : List α} (g0 g1 : α → Value) (hf : ∀ x, f x = [g0 x, g1 x]) (h : RL f w (.slice a n cap) l) {k : Nat} (hk : k < l.length) :
    ∃ b off, a = some ⟨b, off, none⟩ ∧ w.cell? ⟨b, off + k * 2, none⟩ = some (g0 l[k]) ∧ w.cell? ⟨b, off + k * 2 + 1, none⟩ = some (g1 l[k]) := by
  obtain ⟨b, off, ha, hc⟩ := RL.at (c := 2) (fun x => by rw [hf]; rfl) h hk (by decide)
  exact ⟨b, off, ha, hc 0 _ (by rw [hf]; rfl), hc 1 _ (by rw [hf]; rfl)⟩
theorem RL.at3 {α : Type} {f : α → List Value} {w : World} {a : Option Addr} {n cap : Nat} {l : List α} (g0 g1 g2 : α → Value) (hf : ∀ x, f x = [g0 x, g1 x, g2 x]) (h : RL f w (.slice a n cap) l) {k : Nat} (hk : k < l.length) :
    ∃ b off, a = some ⟨b, off, none⟩ ∧ w.cell? ⟨b, off + k * 3, none⟩ = some (g0 l[k]) ∧ w.cell? ⟨b, off + k * 3 + 1, none⟩ = some (g1 l[k]) ∧ w.cell? ⟨b, off + k * 3 + 2, none⟩ = some (g2 l[k]) := by
  obtain ⟨b, off, ha, hc⟩ := RL.at (c := 3) (fun x => by rw [hf]; rfl) h hk (by decide)
  exact ⟨b, off, ha, hc 0 _ (by rw [hf]; rfl), hc 1 _ (by rw [hf]; rfl), hc 2 _ (by rw [hf]; rfl)⟩

/-- An owned row reads. -/
theorem Sl.of_owns {w : World} {base : Nat} {e : TypeId} {size : Nat} {v : Value} {n : Nat} {xs : List Value} (h : w.ownsRow base e size v n xs) : Sl w v n xs := by
  have hh := h
  obtain ⟨h1, h2⟩ := h
  rcases h2 with ⟨rfl, rfl⟩ | ⟨g, cap, cur, rfl, hb, hg, hn, hc, hs, ht⟩
  · simp only [Nat.zero_mul, List.length_eq_zero_iff] at h1
    exact ⟨none, 0, rfl, Nat.le_refl _, by unfold maxLen; omega, .inl h1⟩
  · refine ⟨some ⟨g, 0, none⟩, cap, rfl, hn, hc, .inr ⟨g, 0, rfl, fun j u hj => ?_⟩⟩
    have := hh.cells (g := g) rfl j u hj
    have hadd : (⟨g, 0, none⟩ : Addr).add j = ⟨g, 0 + j, none⟩ := by unfold Addr.add; split <;> simp_all
    rw [← hadd]; exact this

theorem Sl.nil (w : World) (n : Nat) (hn : n = 0) : Sl w (.slice none n 0) n [] := ⟨none, 0, rfl, by omega, by unfold maxLen; omega, .inl rfl⟩
theorem RL.nil {α : Type} (f : α → List Value) (w : World) : RL f w (.slice none 0 0) [] := Sl.nil w 0 rfl


/-! ### Owned lists, and append onto them -/

/-- The cells of an element: c of them, each a value of one cell. -/
structure Flat {α : Type} (f : α → List Value) (c : Nat) : Prop where
  len : ∀ x, (f x).length = c
  one : ∀ x, ∀ u ∈ f x, u.oneCell' = true
  pos : 0 < c

/-- What the table of types says of a slice type and its element type. -/
structure Elem (P : Program) (t e : TypeId) (c bytes : Nat) : Prop where
  under : P.underlying t = some (.slice e)
  info : ∃ i z, P.info? e = some i ∧ i.zero = some z ∧ i.size = c ∧ i.bytes = bytes ∧ z.cells.size = c

theorem Elem.mk' {P : Program} {t e : TypeId} {z : Value} {c bytes : Nat} (h : P.underlying t = some (.slice e)) (hi : (P.info? e).map (fun i => (i.zero, i.size, i.bytes)) = some (some z, c, bytes)) (hz : z.cells.size = c) : Elem P t e c bytes := by
  obtain ⟨i, h1, h2, h3, h4⟩ := info_parts hi
  exact ⟨h, i, z, h1, h2, h3, h4, hz⟩

/-- The slice v owns the list l: its row begins among the blocks from base on. -/
def Own {α : Type} (f : α → List Value) (base : Nat) (e : TypeId) (c : Nat) (w : World) (v : Value) (l : List α) : Prop := w.ownsRow base e c v l.length (l.flatMap f)

theorem Own.nil {α : Type} (f : α → List Value) (base : Nat) (e : TypeId) (c : Nat) (w : World) : Own f base e c w (.slice none 0 0) [] := World.ownsRow_nil w base e c
theorem Own.reads {α : Type} {f : α → List Value} {base : Nat} {e : TypeId} {c : Nat} {w : World} {v : Value} {l : List α} (h : Own f base e c w v l) : RL f w v l := Sl.of_owns h
theorem Own.alloc {α : Type} {f : α → List Value} {base : Nat} {e : TypeId} {c : Nat} {w : World} {v : Value} {l : List α} (h : Own f base e c w v l) (o : Obj) : Own f base e c (w.alloc o) v l := World.ownsRow.alloc h o
theorem Own.mono {α : Type} {f : α → List Value} {base base' : Nat} {e : TypeId} {c : Nat} {w : World} {v : Value} {l : List α} (h : Own f base e c w v l) (hb : base' ≤ base) : Own f base' e c w v l := by
  obtain ⟨h1, h2⟩ := h
  exact ⟨h1, h2.imp id fun ⟨g, cap, cur, a, b, r⟩ => ⟨g, cap, cur, a, Nat.le_trans hb b, r⟩⟩
/-- What is owned stays owned while the world grows elsewhere. -/
theorem Own.below {α : Type} {f : α → List Value} {base : Nat} {e : TypeId} {c : Nat} {w w' : World} {v : Value} {l : List α} (h : Own f base e c w v l) (hb : Below w.heap.size w w') : Own f base e c w' v l := by
  obtain ⟨h1, h2⟩ := h
  refine ⟨h1, h2.imp id fun ⟨g, cap, cur, a, b, hg, r⟩ => ⟨g, cap, cur, a, b, ?_, r⟩⟩
  rw [hb.block g (Array.getElem?_eq_some_iff.1 hg).1]; exact hg
theorem Own.grown {α : Type} {f : α → List Value} {base : Nat} {e : TypeId} {c : Nat} {w w' : World} {v : Value} {l : List α} {row : Option Nat} (h : Own f base e c w v l) (hg : w.grownBy w' row) (hne : v.ownBlock = none ∨ v.ownBlock ≠ row) : Own f base e c w' v l := World.ownsRow.kept h hg hne
theorem Own.setCell {α : Type} {f : α → List Value} {base : Nat} {e : TypeId} {c : Nat} {w : World} {v : Value} {l : List α} (h : Own f base e c w v l) {p : Addr} (hp : p.block < base) (u : Value) : Own f base e c (w.setCell p u) v l := ownsRow_setCell_below h hp u
theorem Own.form {α : Type} {f : α → List Value} {base : Nat} {e : TypeId} {c : Nat} {w : World} {v : Value} {l : List α} (h : Own f base e c w v l) : ∃ a cap, v = .slice a l.length cap := by
  obtain ⟨a, cap, hv, _, _⟩ := h.reads.form
  exact ⟨a, cap, hv⟩

theorem run_app_empty {P : Program} (w : World) (base : Nat) (t ty e : TypeId) (c bytes : Nat) (hT : Elem P t e c bytes) (v : Value) (n : Nat) (xs : List Value) (hown : w.ownsRow base e c v n xs) (ao : Option Addr) (cc : Nat) :
    (Builtin.append_ #[t, t] ty #[v, .slice ao 0 cc]).run P w = .ok v w := by
  obtain ⟨ht, i, z, hi, _⟩ := hT
  rcases hown.2 with ⟨rfl, rfl⟩ | ⟨g, cap, cur, rfl, hbg, hg, hnc, hcm, hcs, htake⟩
  · cases ao <;> simp [Builtin.append_, run_underlying ht, Go.sizeOf, typeInfo, hi, Builtin.lenOf, Builtin.firstCells, loadCells, loadCellsFrom]
  · cases ao <;> simp [Builtin.append_, run_underlying ht, Go.sizeOf, typeInfo, hi, Builtin.lenOf, Builtin.firstCells, loadCells, loadCellsFrom, hnc, storeCells]

theorem run_app {α : Type} {f : α → List Value} {P : Program} (w : World) (base : Nat) (t ty e : TypeId) (c bytes : Nat) (hF : Flat f c) (hT : Elem P t e c bytes) (v : Value) (l : List α) (hown : Own f base e c w v l)
    (vx : Value) (l2 : List α) (hs : RL f w vx l2) (hroom : (l.length + l2.length) * bytes ≤ 140737488355328) (h63 : l.length + l2.length ≤ maxLen) (hbase : base ≤ w.heap.size) :
    ∃ v' w', (Builtin.append_ #[t, t] ty #[v, vx]).run P w = .ok v' w' ∧ Own f base e c w' v' (l ++ l2) ∧ w.grownBy w' v.ownBlock := by
  obtain ⟨a, cap, rfl, h1, h2, h3⟩ := hs
  cases l2 with
  | nil =>
    exact ⟨v, w, run_app_empty w base t ty e c bytes hT v _ _ hown a cap, by simpa using hown, World.grownBy.refl _ _⟩
  | cons y l2 =>
    rcases h3 with h3 | ⟨b, off, rfl, hc⟩
    · exfalso
      have hl := flat_len hF.len (y :: l2)
      have h4 : 0 < (y :: l2).length * c := Nat.mul_pos (by simp) hF.pos
      rw [h3] at hl; rw [← hl] at h4
      simp at h4
    · obtain ⟨ht, i, z, hi, hz, hsz, hby, hzs⟩ := hT
      obtain ⟨v', w', hr, r1, r2, _⟩ := run_append_own (P := P) w base t ty e i z c bytes ht hi hz hsz hby hzs hF.pos v _ _ hown ⟨b, off, none⟩ (y :: l2).length cap ((y :: l2).flatMap f) (flat_len hF.len _)
        (fun j u hj => by rw [Addr.add_lit]; exact hc j u hj) (fun u hu => by obtain ⟨x, _, hx⟩ := List.mem_flatMap.1 hu; exact hF.one x u hx) h63 hroom hbase
      refine ⟨v', w', hr, ?_, r2⟩
      unfold Own
      rw [List.length_append, List.flatMap_append]
      exact r1

/-- 'append(s, x...)', s owned, x any list that is read: for the walk. -/
theorem wpList_app {α : Type} {f : α → List Value} {P : Program} {w : World} {ops : Array Oper} {rest : List Oper} {o : Oper} {a : Act} {Q : Exit → Act → World → Prop} (hgd : o.guard = none) (s x : Operand) (t : TypeId)
    (ho : o.op = .call { callee := .builtin .append, args := #[s, x], argTypes := #[t, t] })
    (base : Nat) (e : TypeId) (c bytes : Nat) (hF : Flat f c) (hT : Elem P t e c bytes) {v : Value} {l : List α} (hown : Own f base e c w v l) (hs : a.eval s = v)
    {vx : Value} (l2 : List α) (hsrc : RL f w vx l2) (hx : a.eval x = vx) (hroom : (l.length + l2.length) * bytes ≤ 140737488355328) (h63 : l.length + l2.length ≤ maxLen) (hbase : base ≤ w.heap.size)
    (h : ∀ v' w', Own f base e c w' v' (l ++ l2) → w.grownBy w' v.ownBlock → wpList P ops Q rest (a.put o.dst v') w') : wpList P ops Q (o :: rest) a w := by
  refine wpList_plain hgd fun K hK => ?_
  obtain ⟨v', w', hr, r1, r2⟩ := run_app (P := P) w base t o.type e c bytes hF hT v l hown vx l2 hsrc hroom h63 hbase
  unfold Oper.wp execOp
  simp only [ho, resolve, invoke, builtin, Sem.run_bind, Sem.run_pure, Result.andThen_ok, List.map_toArray, List.map_cons, List.map_nil, hs, hx, hr]
  exact hK _ _ (h v' w' r1 r2)

theorem RL.new1 {α : Type} {f : α → List Value} (w : World) (e : TypeId) (fr : Nat × Nat) (y : α) : RL f (w.alloc (.cells (f y).toArray e fr)) (.slice (some ⟨w.heap.size, 0, none⟩) 1 1) [y] := by
  refine ⟨_, _, rfl, Nat.le_refl _, by unfold maxLen; omega, .inr ⟨_, _, rfl, fun j u hj => ?_⟩⟩
  rw [cell_of_row _ _ _ (f y).toArray e fr (heap_alloc_new w _)]
  simpa using hj

/-- 'append(s, y)', s owned. -/
theorem wpList_push {α : Type} {f : α → List Value} {P : Program} {w : World} {ops : Array Oper} {rest : List Oper} {o : Oper} {a : Act} {Q : Exit → Act → World → Prop} {cs : Array Value} {fr : Nat × Nat} {g : Nat} (hgd : o.guard = none) (s x : Operand) (t : TypeId)
    (ho : o.op = .call { callee := .builtin .append, args := #[s, x], argTypes := #[t, t] })
    (base : Nat) (e : TypeId) (c bytes : Nat) (hF : Flat f c) (hT : Elem P t e c bytes) {v : Value} {l : List α} (hown : Own f base e c w v l) (hs : a.eval s = v)
    (y : α) (hcs : (f y).toArray = cs) (hx : a.eval x = .slice (some ⟨g, 0, none⟩) 1 1) (hroom : (l.length + 1) * bytes ≤ 140737488355328) (h63 : l.length + 1 ≤ maxLen) (hbase : base ≤ w.heap.size)
    (h : ∀ v' w', Own f base e c w' v' (l ++ [y]) → Below base w w' → w.grownBy w' v.ownBlock → wpList P ops Q rest (a.put o.dst v') w') (hg : g = w.heap.size := by first | rfl | (simp; done)) : wpList P ops Q (o :: rest) a (w.alloc (.cells cs e fr)) := by
  subst hcs
  subst hg
  refine wpList_app hgd s x t ho base e c bytes hF hT (hown.alloc _) hs [y] (RL.new1 w e fr y) hx hroom h63 (by simp; omega) fun v' w' h1 h2 => ?_
  have hlt := World.ownsRow.lt hown
  exact h v' w' h1 (((Below.refl base w).alloc hbase _).grown h2 (by simp; omega) fun k hk => (hlt k hk).1)
    ⟨h2.os, h2.tape, h2.output, by have := h2.size; simp at this; omega, fun k hk hne => by rw [h2.block k (by simp; omega) hne, Below.heap_alloc w _ k hk]⟩

/-- The lists of this program: a cell for an int, a string. -/
def intC (x : Int) : List Value := [.int .i64 x]
def strC (x : ByteArray) : List Value := [.string x]
theorem intC_flat : Flat intC 1 := ⟨fun _ => rfl, fun _ u hu => by simp [intC] at hu; subst hu; rfl, by decide⟩
theorem strC_flat : Flat strC 1 := ⟨fun _ => rfl, fun _ u hu => by simp [strC] at hu; subst hu; rfl, by decide⟩

/-! ### Blocks of the call's own -/
theorem bcell {W w1 : World} (hb : Below W.heap.size W w1) : (∀ b o, b < W.heap.size → w1.cell? ⟨b, o, none⟩ = W.cell? ⟨b, o, none⟩) ∧ (∀ b o, b < W.heap.size → w1.frozen? ⟨b, o, none⟩ = W.frozen? ⟨b, o, none⟩) :=
  ⟨fun b o h => hb.cell (p := ⟨b, o, none⟩) h, fun b o h => hb.frozen (p := ⟨b, o, none⟩) h⟩

/-- Block b is a row of these cells, not frozen. -/
def Blk (w : World) (b : Nat) (cs : Array Value) (t : TypeId) : Prop := w.heap[b]? = some (.cells cs t (0, 0))
section
variable {w w' : World} {b : Nat} {cs : Array Value} {t : TypeId}
theorem Blk.cell (h : Blk w b cs t) (i : Nat) : w.cell? ⟨b, i, none⟩ = cs[i]? := by unfold Blk at h; simp [World.cell?, h]
theorem Blk.free (h : Blk w b cs t) (i : Nat) : w.frozen? ⟨b, i, none⟩ = false := by unfold Blk at h; simp [World.frozen?, h]
theorem Blk.lt (h : Blk w b cs t) : b < w.heap.size := (Array.getElem?_eq_some_iff.1 h).1
theorem Blk.two {x y : Value} (h : Blk w b #[x, y] t) : w.cell? ⟨b, 0, none⟩ = some x ∧ w.cell? ⟨b, 1, none⟩ = some y ∧ w.frozen? ⟨b, 0, none⟩ = false ∧ w.frozen? ⟨b, 1, none⟩ = false := ⟨h.cell 0, h.cell 1, h.free 0, h.free 1⟩
theorem Blk.one {x : Value} (h : Blk w b #[x] t) : w.cell? ⟨b, 0, none⟩ = some x ∧ w.frozen? ⟨b, 0, none⟩ = false := ⟨h.cell 0, h.free 0⟩
theorem Blk.drewN (h : Blk w b cs t) (n : Nat) : Blk (w.drewN n) b cs t := h
theorem belowDrewN {B n : Nat} {a : World} (h : Below B a w) : Below B a (w.drewN n) := ⟨h.os, h.tape, h.output, h.size, h.block⟩
theorem Blk.below {B : Nat} (h : Blk w b cs t) (hb : Below B w w') (hlt : b < B) : Blk w' b cs t := (hb.block b hlt).trans h
theorem Blk.step (h : Blk w b cs t) (hb : Below w.heap.size w w') : Blk w' b cs t := h.below hb h.lt
theorem Blk.new (w : World) (cs : Array Value) (t : TypeId) : Blk (w.alloc (.cells cs t)) w.heap.size cs t := heap_alloc_new w _
theorem Blk.newAt {n : Nat} (hn : n = w.heap.size) : Blk (w.alloc (.cells cs t)) n cs t := by rw [hn]; exact Blk.new w cs t
theorem Blk.alloc (h : Blk w b cs t) (o : Obj) : Blk (w.alloc o) b cs t := (heap_alloc_old w o h.lt).trans h
theorem Blk.drew (h : Blk w b cs t) : Blk w.drew b cs t := h
theorem Blk.set (h : Blk w b cs t) (i : Nat) (v : Value) : Blk (w.setCell ⟨b, i, none⟩ v) b (cs.setIfInBounds i v) t := by
  have hl := h.lt
  unfold Blk at *
  obtain ⟨h1, h2⟩ := Array.getElem?_eq_some_iff.1 h
  simp only [World.setCell]
  rw [Array.getElem?_eq_getElem (by simpa using hl), Array.getElem_modify]
  simp [h2]
theorem Blk.set_other (h : Blk w b cs t) (p : Addr) (v : Value) (hne : b ≠ p.block) : Blk (w.setCell p v) b cs t := (Below.heap_setCell w p v b hne).trans h
theorem Blk.grown {row : Option Nat} (h : Blk w b cs t) (hg : w.grownBy w' row) (hne : some b ≠ row) : Blk w' b cs t := (hg.block b h.lt hne).trans h
end

/-! ### A region that draws its order, whose operations only read and whose calls only lay new blocks -/
/-- A world that is W with new blocks. -/
structure BW (W : World) where
  val : World
  below : Below W.heap.size W val
instance BW.nonempty {W : World} : Nonempty (BW W) := ⟨⟨W, Below.refl _ _⟩⟩
@[go_sem] theorem BW.cell {W : World} (x : BW W) (b o : Nat) (h : b < W.heap.size) : x.val.cell? ⟨b, o, none⟩ = W.cell? ⟨b, o, none⟩ := x.below.cell (p := ⟨b, o, none⟩) h
theorem wp_region_below {P : Program} {id : Nat} {Q : Exit → Act → World → Prop} {a : Act} {w : World} {l : List Oper} (hm : P.follows .mixedOrders = true) (hB : Region.lexB .any l.toArray = true)
    (h : wpQuiet P l.toArray (fun w' => ∃ x : BW w, w' = x.val) (fun a' => ∀ w', (∃ x : BW w, w' = x.val) → Q .normal a' w') l a) : (Code.region id l.toArray true).wp P Q a w :=
  wp_region_quiet (C := fun w' => ∃ x : BW w, w' = x.val) hm hB ⟨⟨_, (Below.refl _ w).drew⟩, rfl⟩ (by simpa using h)
theorem BW.call {P : Program} {f : FuncId} {args : Array Value} {W : World} {x : BW W} {v : Value}
    (h : Calls P f args x.val fun e w' => e = .returned v ∧ Below x.val.heap.size x.val w') : Calls P f args x.val fun e w'' => e = .returned v ∧ ∃ y : BW W, w'' = y.val :=
  h.mono fun _ w' ⟨he, hb⟩ => ⟨he, ⟨w', x.below.trans (hb.mono x.below.size)⟩, rfl⟩
theorem BW.call_same {P : Program} {f : FuncId} {args : Array Value} {W : World} {x : BW W} {v : Value}
    (h : Calls P f args x.val fun e w' => e = .returned v ∧ x.val = w') : Calls P f args x.val fun e w'' => e = .returned v ∧ ∃ y : BW W, w'' = y.val :=
  h.mono fun _ _ ⟨he, hb⟩ => ⟨he, x, hb.symm⟩
end Wb

namespace Go.Proofs.Ytjhmfljlclajnac
open Go.ChangeShapes Go.WideShapes Go.ChangeAt Go.RowKit Wb

theorem own : ownKnob Try.prog.godebug = none := by kernel_rfl
theorem laidOut : laidOutB Try.prog = true := by kernel_rfl

/-- What reads as data before reads so behind the call, where only new blocks are written. -/
theorem trodAll_stays {H : Type} {enc : TypeId × Value → H} {W W' : World} {sp : Nat → Bool} (hb : Below W.heap.size W W') : ∀ (ts : List TypeId) (vs : List Value) (ds : List (DataW H)) (ps : List MemPlace),
    (∀ t ∈ ts, Try.prog.readableRec t = true ∧ t < Try.prog.types.size) → DataW.TrodAll enc Try.prog W 0 (fun _ => true) true ts vs ds ps →
    (∀ x ∈ ps, x.block < W.heap.size) → (∀ x ∈ ps, sp x.block = true) → DataW.TrodAll enc Try.prog W' 0 sp true ts vs ds ps
  | [], [], [], _, _, h, _, _ => h
  | t :: ts, v :: vs, d :: ds, ps, hr, h, hlt, hs => by
    obtain ⟨p, q, h1, h2, rfl⟩ := h
    refine ⟨p, q, ?_, ?_, rfl⟩
    · exact WideElems.Trod_stays laidOut (hr t (by simp)).1 (hr t (by simp)).2 h1 (fun x hx => hb.same (hlt x (by simp [hx]))) (fun x hx => hs x (by simp [hx]))
    · exact trodAll_stays hb ts vs ds q (fun t' ht => hr t' (by simp [ht])) h2 (fun x hx => hlt x (by simp [hx])) (fun x hx => hs x (by simp [hx]))
  | [], [], _ :: _, _, _, h, _, _ => h.elim
  | [], _ :: _, _, _, _, h, _, _ => h.elim
  | _ :: _, [], _, _, _, h, _, _ => h.elim
  | _ :: _, _ :: _, [], _, _, h, _, _ => h.elim

/-- What the statement asks behind a call that returned true. -/
theorem post_true {H : Type} {enc : TypeId × Value → H} {f : Func} {s : ChangeSpec} {apart fresh handsOn : Bool} {W W' : World} {args : Array Value} {ds gs : List (DataW H)} {before : List MemPlace}
    (hres : f.resultTypes = #[4]) (hvars : s.vars = []) (hspec : s.fn H (ds ++ gs) = { results := [.lit (.bool true)], args := ds })
    (hread : ∀ t ∈ f.params.toList, Try.prog.readableRec t = true ∧ t < Try.prog.types.size)
    (hW : DataW.Whole enc Try.prog f.params.toList s.vars apart W args.toList ds gs before) (hb : Below W.heap.size W W') :
    s.post enc Try.prog f apart fresh handsOn false W args (.bool true) W' := by
  have hlt := hW.lt
  have hW' := hW
  obtain ⟨p, q, hA, hV, rfl, hfz, hnd⟩ := hW
  rw [hvars] at hV
  obtain ⟨rfl, rfl⟩ := trodVars_none hV
  refine ⟨ds, [], _, [], p, [], hW', ?_, ?_, ?_, hb.frame _, fun h => by cases h⟩
  · rw [hspec, hres]
    exact trodAll_mk1 (shut_bool Try.underlying4 true)
  · rw [hspec]
    exact trodAll_stays hb _ _ _ _ hread hA (fun x hx => hlt x (by simp [hx])) (fun x hx => by simpa using hlt x (by simp [hx]))
  · rw [hspec, hvars]
    rfl

/-- The world of the witness: the settled one. -/
noncomputable def plainWorld (os : Os) : World := World.holding Try.prog os ⟨#[], #[], []⟩
end Go.Proofs.Ytjhmfljlclajnac

namespace Wb
open Go Go.ChangeShapes Go.WideShapes Go.ChangeAt Go.RowKit Go.Joins Go.Deep
theorem flat_at {α : Type} {f : α → List Value} {c : Nat} (hf : ∀ x, (f x).length = c) : ∀ (l : List α) (j : Nat) (u : Value), (l.flatMap f)[j]? = some u → ∃ i x r, l[i]? = some x ∧ j = i * c + r ∧ (f x)[r]? = some u ∧ r < c
  | [], j, u, h => by simp at h
  | y :: l, j, u, h => by
    rw [List.flatMap_cons] at h
    by_cases hj : j < c
    · rw [List.getElem?_append_left (by rw [hf]; exact hj)] at h
      exact ⟨0, y, j, rfl, by omega, h, hj⟩
    · rw [List.getElem?_append_right (by rw [hf]; omega), hf] at h
      obtain ⟨i, x, r, h1, h2, h3, h4⟩ := flat_at hf l _ u h
      exact ⟨i + 1, x, r, by simpa using h1, by rw [Nat.succ_mul]; omega, h3, h4⟩
section
variable {H : Type} {enc : TypeId × Value → H} {P : Program} {w : World} {base : Nat} {spare : Nat → Bool} {held : Bool}
theorem read_RL {α : Type} [Inhabited α] {f : α → List Value} {c : Nat} (hf : ∀ x, (f x).length = c) (h0 : 0 < c) {t e : TypeId} {fuel : Nat} {cs : List Value} {x : DataW H × List MemPlace} (ht : P.underlying t = some (.slice e)) (hc : P.cellsOf e = c)
    (hread : ∀ n cs' y, DataW.trod enc P w base spare held n e cs' = some y → cs'.length = c → ∃ x : α, cs' = f x) (h : DataW.trod enc P w base spare held fuel t cs = some x) :
    ∃ (v : Value) (l : List α), cs = [v] ∧ RL f w v l ∧ ((x.1 = .nil ∧ l = []) ∨ ∃ el sp, x.1 = .slice el sp ∧ el.length = l.length) := by
  rcases open_slice ht h with ⟨rfl, rfl⟩ | ⟨a, len, cap, m, n, D, Pl, rfl, hb, hl, hm, hmm, rfl, hx⟩
  · exact ⟨_, [], rfl, RL.nil f w, .inl ⟨rfl, rfl⟩⟩
  have hlm : len ≤ m := by rw [hmm]; split <;> omega
  have each : ∀ i, i < len → ∃ x : α, ∀ r, r < c → w.cell? (a.add (i * c + r)) = (f x)[r]? := by
    intro i hi
    obtain ⟨cs', h1, h2⟩ := hx i (by omega)
    rw [hc] at h1
    obtain ⟨_, hlen, hcell⟩ := World.cells?_some h1
    obtain ⟨x, rfl⟩ := hread _ _ _ h2 hlen
    exact ⟨x, fun r hr => by have := hcell r hr; rwa [add_add] at this⟩
  obtain ⟨X, hX⟩ := choose_lt each
  refine ⟨_, (List.range len).map X, rfl, ?_, .inr ⟨_, _, rfl, by simp⟩⟩
  refine ⟨some a, cap, by simp, by simpa using hl, hm, ?_⟩
  by_cases hlen : len = 0
  · subst hlen; left; rfl
  right
  have hspot : a.spot = none := by
    have h1 := hX 0 (by omega) 0 h0
    have h2 : (f (X 0))[0]? ≠ none := by rw [Ne, List.getElem?_eq_none_iff, hf]; omega
    obtain ⟨u, hu⟩ := Option.ne_none_iff_exists'.1 h2
    rw [hu] at h1
    simpa [Addr.add] using World.cell?_spot h1
  obtain ⟨b, off, spot⟩ := a
  obtain rfl : spot = none := hspot
  refine ⟨b, off, rfl, fun j u hj => ?_⟩
  obtain ⟨i, x, r, h1, rfl, h3, h4⟩ := flat_at hf _ _ _ hj
  rw [List.getElem?_map, Option.map_eq_some_iff] at h1
  obtain ⟨k, hk, rfl⟩ := h1
  obtain ⟨hkl, rfl⟩ := List.getElem?_eq_some_iff.1 hk
  simp only [List.length_range] at hkl
  simp only [List.getElem_range] at h3
  have := hX i hkl r h4
  rw [h3, Addr.add_lit] at this
  exact this
end
end Wb

namespace Wb
open Go Go.RowKit

/-! ### ring -/
structure Ring where
  head : Int
  used : Int
def Ring.val (r : Ring) : Value := .agg #[.int .i64 r.head, .int .i64 r.used]
def goodR (r : Ring) : Bool := decide (0 ≤ r.head ∧ r.head < 24 ∧ 0 ≤ r.used ∧ r.used ≤ 24)
/-- The k places from a head on. -/
def places (h : Int) (k : Nat) : List Int := (List.range k).map fun (i : Nat) => (h + (i : Int)) % 24
/-- Take's error. -/
def takeE (r : Ring) (n : Int) : Int := if goodR r = false ∨ n < 0 then 2 else if n > 24 - r.used then 6 else 0
def takeR (r : Ring) (n : Int) : Ring := if takeE r n = 0 then ⟨(r.head + n) % 24, r.used + n⟩ else r
def takeL (r : Ring) (n : Int) : List Int := if takeE r n = 0 then places r.head n.toNat else []
def giveE (r : Ring) (n : Int) : Int := if goodR r = false ∨ n < 0 ∨ n > r.used then 2 else 0
def giveR (r : Ring) (n : Int) : Ring := if giveE r n = 0 then ⟨r.head, r.used - n⟩ else r
/-- How many it takes to name n, each so many. -/
def partsOf (n each : Int) : Int := (n + each - 1) / each
def needE (m r : Int) : Int := if m < 0 ∨ m > 12 ∨ r < 0 ∨ r > 12 then 2 else 0
def needN (m r : Int) : Int := if needE m r = 0 then partsOf r 20 + partsOf m 10 + m + 1 else 0
def clamp24 (n : Int) : Int := max 0 (min n 24)
def mostN (n : Int) : Int := clamp24 n + partsOf (clamp24 n) 10 + partsOf (clamp24 n) 20 + 1

theorem goodR_iff (r : Ring) : goodR r = true ↔ 0 ≤ r.head ∧ r.head < 24 ∧ 0 ≤ r.used ∧ r.used ≤ 24 := by simp [goodR]
theorem goodR_not (r : Ring) : goodR r = false ↔ ¬ (0 ≤ r.head ∧ r.head < 24 ∧ 0 ≤ r.used ∧ r.used ≤ 24) := by simp [goodR]
theorem places_succ (h : Int) (k : Nat) : places h (k + 1) = places h k ++ [(h + k) % 24] := by simp [places, List.range_succ]
theorem places_len (h : Int) (k : Nat) : (places h k).length = k := by simp [places]
theorem takeL_len (r : Ring) (n : Int) : (takeL r n).length ≤ 24 := by
  unfold takeL
  split
  · rename_i hh
    rw [places_len]
    unfold takeE at hh
    split at hh
    · cases hh
    · split at hh
      · cases hh
      · rename_i h1 h2
        simp at h1
        obtain ⟨h3, h4⟩ := h1
        have := (goodR_iff r).1 h3
        omega
  · simp
theorem places_get (h : Int) (k i : Nat) (hi : i < k) : (places h k)[i]? = some ((h + i) % 24) := by simp [places, hi]


/-! ### marks -/
structure Tag where
  block : Int
  esc : Bool
structure Mrk where
  kind : Int
  seq : Int
  at_ : Int
  tags : List Tag
  blocks : List Int
def tagC (t : Tag) : List Value := [.int .i64 t.block, .bool t.esc]
theorem tagC_flat : Flat tagC 2 := ⟨fun _ => rfl, fun _ u hu => by simp [tagC] at hu; rcases hu with rfl | rfl <;> rfl, by decide⟩
def isBlk (b : Int) : Bool := decide (0 ≤ b ∧ b < 12)
/-- Element k of a list that rises. -/
def riseAt (l : List Int) (k : Nat) : Prop := 0 ≤ l.getD k 0 ∧ l.getD k 0 < 12 ∧ (0 < k → l.getD (k - 1) 0 < l.getD k 0)
instance (l : List Int) (k : Nat) : Decidable (riseAt l k) := by unfold riseAt; infer_instance
def riseTo (l : List Int) (n : Nat) : Prop := ∀ k, k < n → riseAt l k
def rise (l : List Int) : Bool := decide (∀ k, k < l.length → riseAt l k)
theorem rise_iff (l : List Int) : rise l = true ↔ riseTo l l.length := by simp [rise, riseTo]
theorem rise_no {l : List Int} {k : Nat} (hk : k < l.length) (h : ¬ riseAt l k) : rise l = false := by
  simp only [rise, decide_eq_false_iff_not]
  exact fun hh => h (hh k hk)
theorem riseTo_succ {l : List Int} {k : Nat} (h : riseTo l k) (h2 : riseAt l k) : riseTo l (k + 1) := by
  intro j hj
  by_cases e : j = k
  · subst e; exact h2
  · exact h j (by omega)
def badKind (m : Mrk) : Prop := m.kind < 1 ∨ m.kind > 4
def badNum (m : Mrk) : Prop := m.seq < 1 ∨ m.seq > 2147483647 ∨ m.at_ < 0 ∨ m.at_ > 23
def badForm (m : Mrk) : Prop := m.kind ≠ 1 ∧ m.at_ ≠ 0 ∨ m.kind ≠ 2 ∧ m.tags.length ≠ 0 ∨ m.kind ≠ 3 ∧ m.blocks.length ≠ 0
def badLen (m : Mrk) : Prop := m.tags.length > 10 ∨ m.blocks.length > 20 ∨ m.kind = 2 ∧ m.tags.length = 0 ∨ m.kind = 3 ∧ m.blocks.length = 0
def badRise (m : Mrk) : Prop := rise (m.tags.map (·.block)) = false ∨ rise m.blocks = false
instance (m : Mrk) : Decidable (badKind m) := by unfold badKind; infer_instance
instance (m : Mrk) : Decidable (badNum m) := by unfold badNum; infer_instance
instance (m : Mrk) : Decidable (badForm m) := by unfold badForm; infer_instance
instance (m : Mrk) : Decidable (badLen m) := by unfold badLen; infer_instance
instance (m : Mrk) : Decidable (badRise m) := by unfold badRise; infer_instance
def markE (m : Mrk) : Int := if badKind m then 3 else if badNum m then 2 else if badForm m then 1 else if badLen m ∨ badRise m then 2 else 0
theorem markE_kind {m : Mrk} (h : badKind m) : markE m = 3 := by unfold markE; rw [if_pos h]
theorem markE_num {m : Mrk} (h1 : ¬ badKind m) (h : badNum m) : markE m = 2 := by unfold markE; rw [if_neg h1, if_pos h]
theorem markE_form {m : Mrk} (h1 : ¬ badKind m) (h2 : ¬ badNum m) (h : badForm m) : markE m = 1 := by unfold markE; rw [if_neg h1, if_neg h2, if_pos h]
theorem markE_len {m : Mrk} (h1 : ¬ badKind m) (h2 : ¬ badNum m) (h3 : ¬ badForm m) (h : badLen m) : markE m = 2 := by unfold markE; rw [if_neg h1, if_neg h2, if_neg h3, if_pos (.inl h)]
theorem markE_rise {m : Mrk} (h1 : ¬ badKind m) (h2 : ¬ badNum m) (h3 : ¬ badForm m) (h : badRise m) : markE m = 2 := by unfold markE; rw [if_neg h1, if_neg h2, if_neg h3, if_pos (.inr h)]
theorem markE_ok {m : Mrk} (h1 : ¬ badKind m) (h2 : ¬ badNum m) (h3 : ¬ badForm m) (h4 : ¬ badLen m) (h5 : ¬ badRise m) : markE m = 0 := by unfold markE; rw [if_neg h1, if_neg h2, if_neg h3, if_neg (by simp [h4, h5])]
/-- A mark by value, as it is read. -/
def RMark (w : World) (v : Value) (m : Mrk) : Prop :=
  ∃ vt vb, v = .agg #[.int .i64 m.kind, .int .i64 m.seq, .int .i64 m.at_, vt, vb] ∧ RL tagC w vt m.tags ∧ RL intC w vb m.blocks ∧ m.tags.length ≤ 8796093022208 ∧ m.blocks.length ≤ 17592186044416
theorem RMark.below {w w' : World} {v : Value} {m : Mrk} (h : RMark w v m) (hb : Below w.heap.size w w') : RMark w' v m := by
  obtain ⟨vt, vb, hv, h1, h2, h3⟩ := h
  exact ⟨vt, vb, hv, h1.below hb, h2.below hb, h3⟩

end Wb

namespace Go.Proofs.Ytjhmfljlclajnac
open Go.ChangeShapes Go.WideShapes Go.ChangeAt Go.RowKit Go.Joins Wb
set_option maxRecDepth 100000
section
variable {H : Type} {enc : TypeId × Value → H} {W : World} {base : Nat}
end
end Go.Proofs.Ytjhmfljlclajnac

namespace Go.Proofs.Ytjhmfljlclajnac
open Go.ChangeShapes Go.WideShapes Go.ChangeAt Go.RowKit Go.Joins Wb
set_option maxRecDepth 100000
instance : Inhabited Tag := ⟨⟨0, false⟩⟩
section
variable {H : Type} {enc : TypeId × Value → H} {W : World} {base : Nat}
theorem read_ints {fuel : Nat} {cs : List Value} {x : DataW H × List MemPlace} (h : DataW.trod enc Try.prog W 0 (fun _ => true) true fuel 23 cs = some x) :
    ∃ (v : Value) (l : List Int), cs = [v] ∧ RL intC W v l ∧ ((x.1 = .nil ∧ l = []) ∨ ∃ el sp, x.1 = .slice el sp ∧ el.length = l.length) :=
  read_RL (c := 1) (fun _ => rfl) (by decide) Try.underlying23 (by kernel_rfl) (fun n cs' y hy _ => by
    obtain ⟨a, rfl, _⟩ := DataW.trod_int Try.underlying3 hy
    exact ⟨a, rfl⟩) h
end
end Go.Proofs.Ytjhmfljlclajnac

namespace Wb
open Go Go.RowKit
set_option linter.unusedSimpArgs false

theorem ret_st {x : Value} {a b : ByteArray} (h : a = b) : Ending.returned (.tuple #[.string a, x]) = .returned (.tuple #[.string b, x]) := by rw [h]
/-! ### Bytes -/
def byteC (b : UInt8) : List Value := [.int .u8 b.toNat]
theorem byteC_flat : Flat byteC 1 := ⟨fun _ => rfl, fun _ u hu => by simp [byteC] at hu; subst hu; rfl, by decide⟩
def str (bs : List UInt8) : ByteArray := ⟨bs.toArray⟩
theorem str_size (bs : List UInt8) : (str bs).size = bs.length := by simp [str, ByteArray.size]
theorem str_toList (s : ByteArray) : str s.data.toList = s := by cases s; simp [str]
theorem foldl_push (ns : List UInt8) : ∀ (s : ByteArray), ((ns.map fun b => ((b.toNat : Nat) : Int)).foldl (fun r n => r.push (UInt8.ofNat n.toNat)) s) = ⟨s.data ++ ns.toArray⟩ := by
  induction ns with
  | nil => intro s; simp
  | cons b ns ih =>
    intro s
    simp only [List.map_cons, List.foldl_cons]
    rw [ih]
    simp [ByteArray.push]
theorem flat_bytes (bs : List UInt8) : bs.flatMap byteC = (bs.map fun b => ((b.toNat : Nat) : Int)).map (Value.int .u8) := by
  induction bs with
  | nil => rfl
  | cons x bs ih => rw [List.flatMap_cons, ih]; rfl
theorem run_toString {P : Program} {w : World} {src dst e : TypeId} {v : Value} (bs : List UInt8) (hs : P.underlying src = some (.slice e)) (he : P.underlying e = some (.int .u8)) (hd : P.underlying dst = some .string)
    (hr : RL byteC w v bs) : (convert src dst v).run P w = .ok (.string (str bs)) w := by
  obtain ⟨a, cap, rfl, h1, h2, h3⟩ := hr
  rw [run_convert_bytes_string w src dst e a _ cap hs he hd]
  have hl := flat_len (f := byteC) (fun _ => rfl) bs
  rcases h3 with h3 | ⟨b, off, rfl, hc⟩
  · rw [h3] at hl
    have hb : bs = [] := List.eq_nil_of_length_eq_zero (by simpa using hl.symm)
    subst hb
    cases a with
    | none => simp [Conv.bytesToString, str, Sem.run_pure]; rfl
    | some a => simp [Conv.bytesToString, str, loadCells, loadCellsFrom, Sem.run_pure]; rfl
  · have hm := flat_bytes bs
    rw [hm] at hc
    have hload := run_loadCells_list (P := P) w ⟨b, off, none⟩ ((bs.map fun b => ((b.toNat : Nat) : Int)).map (Value.int .u8)) (fun j u hj => by rw [Addr.add_lit]; exact hc j u hj)
    rw [run_bytesToString w ⟨b, off, none⟩ bs.length cap (bs.map fun b => ((b.toNat : Nat) : Int)) (by simpa using hload), foldl_push]
    simp [str]
/-- A byte out of an int. -/
theorem byte_of (n : Int) : ((UInt8.ofNat (n % 256).toNat).toNat : Int) = n % 256 := by
  have h0 : 0 ≤ n % 256 := Int.emod_nonneg _ (by decide)
  have h1 : n % 256 < 256 := Int.emod_lt_of_pos _ (by decide)
  simp; omega

/-! ### Several elements at once -/
theorem RL.newN {α : Type} {f : α → List Value} (w : World) (e : TypeId) (fr : Nat × Nat) (ys : List α) (hn : ys.length ≤ maxLen) : RL f (w.alloc (.cells (ys.flatMap f).toArray e fr)) (.slice (some ⟨w.heap.size, 0, none⟩) ys.length ys.length) ys := by
  refine ⟨_, _, rfl, Nat.le_refl _, hn, .inr ⟨_, _, rfl, fun j u hj => ?_⟩⟩
  rw [cell_of_row _ _ _ (ys.flatMap f).toArray e fr (heap_alloc_new w _)]
  simpa using hj
theorem wpList_pushN {α : Type} {f : α → List Value} {P : Program} {w : World} {ops : Array Oper} {rest : List Oper} {o : Oper} {a : Act} {Q : Exit → Act → World → Prop} {cs : Array Value} {fr : Nat × Nat} {g n : Nat} (hgd : o.guard = none) (s x : Operand) (t : TypeId)
    (ho : o.op = .call { callee := .builtin .append, args := #[s, x], argTypes := #[t, t] })
    (base : Nat) (e : TypeId) (c bytes : Nat) (hF : Flat f c) (hT : Elem P t e c bytes) {v : Value} {l : List α} (hown : Own f base e c w v l) (hs : a.eval s = v)
    (ys : List α) (hcs : (ys.flatMap f).toArray = cs) (hx : a.eval x = .slice (some ⟨g, 0, none⟩) n n) (hroom : (l.length + ys.length) * bytes ≤ 140737488355328) (h63 : l.length + ys.length ≤ maxLen) (hbase : base ≤ w.heap.size)
    (h : ∀ v' w', Own f base e c w' v' (l ++ ys) → Below base w w' → w.grownBy w' v.ownBlock → wpList P ops Q rest (a.put o.dst v') w')
    (hg : g = w.heap.size := by first | rfl | (simp; done)) (hn : n = ys.length := by first | rfl | (simp; done)) : wpList P ops Q (o :: rest) a (w.alloc (.cells cs e fr)) := by
  subst hcs
  subst hg
  subst hn
  refine wpList_app hgd s x t ho base e c bytes hF hT (hown.alloc _) hs ys (RL.newN w e fr ys (by omega)) hx hroom h63 (by simp; omega) fun v' w' h1 h2 => ?_
  have hlt := World.ownsRow.lt hown
  exact h v' w' h1 (((Below.refl base w).alloc hbase _).grown h2 (by simp; omega) fun k hk => (hlt k hk).1)
    ⟨h2.os, h2.tape, h2.output, by have := h2.size; simp at this; omega, fun k hk hne => by rw [h2.block k (by simp; omega) hne, Below.heap_alloc w _ k hk]⟩
/-- A literal slice is owned. -/
theorem Own.lit {α : Type} {f : α → List Value} {c : Nat} (hF : Flat f c) (base : Nat) (e : TypeId) (w : World) (ys : List α) (hb : base ≤ w.heap.size) (hn : ys.length ≤ maxLen) {cs : Array Value} (hcs : (ys.flatMap f).toArray = cs) {g n : Nat} (hg : g = w.heap.size) (hnn : n = ys.length) :
    Own f base e c (w.alloc (.cells cs e)) (.slice (some ⟨g, 0, none⟩) n n) ys := by
  subst hcs hg hnn
  refine ⟨flat_len hF.len ys, .inr ⟨w.heap.size, ys.length, _, rfl, hb, heap_alloc_new w _, Nat.le_refl _, hn, ?_, ?_⟩⟩
  · simp [flat_len hF.len ys]
  · simp only [List.toList_toArray]; exact List.take_of_length_le (Nat.le_of_eq (flat_len hF.len ys))
def byte (n : Int) : UInt8 := UInt8.ofNat (n % 256).toNat
theorem byte_val (n : Int) : ((byte n).toNat : Int) = n % 256 := byte_of n

/-- append onto a literal: a new row. -/
theorem run_app_full {α : Type} {f : α → List Value} {P : Program} (w : World) (base : Nat) (t ty e : TypeId) (c bytes : Nat) (hF : Flat f c) (hT : Elem P t e c bytes) (g1 g2 : Nat) (l l2 : List α) (hpos : 0 < l2.length)
    (h1 : ∀ j u, (l.flatMap f)[j]? = some u → w.cell? ⟨g1, j, none⟩ = some u) (h2 : ∀ j u, (l2.flatMap f)[j]? = some u → w.cell? ⟨g2, j, none⟩ = some u)
    (hroom : (l.length + l2.length) * bytes ≤ 140737488355328) (h63 : l.length + l2.length ≤ maxLen) (hbase : base ≤ w.heap.size) :
    ∃ v' w', (Builtin.append_ #[t, t] ty #[.slice (some ⟨g1, 0, none⟩) l.length l.length, .slice (some ⟨g2, 0, none⟩) l2.length l2.length]).run P w = .ok v' w' ∧ Own f base e c w' v' (l ++ l2) ∧ w.grownBy w' none := by
  obtain ⟨ht, i, z, hi, hz, rfl, rfl, hzs⟩ := hT
  have hsmall : l.length + l2.length ≤ 9223372036854775807 := by simp only [maxLen] at h63; omega
  have hl1 := flat_len hF.len l
  have hl2 := flat_len hF.len l2
  have hr := run_append_grow (P := P) w t ty e i z ht hi hz ⟨g1, 0, none⟩ l.length l.length (l.flatMap f) hl1 (fun j u hj => by rw [Addr.add_lit]; simpa using h1 j u hj) ⟨g2, 0, none⟩ l2.length l2.length (l2.flatMap f) hl2 (fun j u hj => by rw [Addr.add_lit]; simpa using h2 j u hj) (by omega) (by omega) (growslice_fits (by omega) hroom)
  have hge := grownCap_ge w (l.length + l2.length) l.length e
  have hcm : grownCap w (l.length + l2.length) l.length e ≤ maxLen := grownCap_le_maxLen w _ _ e h63
  have hlen : (l.flatMap f ++ l2.flatMap f).length = (l.length + l2.length) * i.size := by rw [List.length_append, hl1, hl2, Nat.add_mul]
  refine ⟨_, _, hr, ?_, ⟨rfl, rfl, rfl, by simp, fun k hk _ => Below.heap_alloc w.drew _ k hk⟩⟩
  unfold Own
  rw [List.length_append, List.flatMap_append]
  refine ⟨hlen, .inr ⟨w.heap.size, _, _, rfl, hbase, heap_alloc_new w.drew _, hge, hcm, ?_, ?_⟩⟩
  · simp only [Array.size_append, List.size_toArray, size_zeroCells, hzs, hl1, hl2, ← Nat.add_mul]
    congr 1
    omega
  · simp only [Array.toList_append, List.append_assoc]
    rw [← List.append_assoc, ← hlen]
    exact List.take_left
/-- 'append(literal, ys...)'. -/
theorem wpList_lit {α : Type} {f : α → List Value} {P : Program} {w : World} {ops : Array Oper} {rest : List Oper} {o : Oper} {a : Act} {Q : Exit → Act → World → Prop} {cs0 cs : Array Value} {fr0 fr : Nat × Nat} {g0 n0 g n : Nat} (hgd : o.guard = none) (s x : Operand) (t : TypeId)
    (ho : o.op = .call { callee := .builtin .append, args := #[s, x], argTypes := #[t, t] })
    (base : Nat) (e : TypeId) (c bytes : Nat) (hF : Flat f c) (hT : Elem P t e c bytes) (l ys : List α) (hcs0 : (l.flatMap f).toArray = cs0) (hcs : (ys.flatMap f).toArray = cs)
    (hs : a.eval s = .slice (some ⟨g0, 0, none⟩) n0 n0) (hx : a.eval x = .slice (some ⟨g, 0, none⟩) n n) (hpos : 0 < ys.length) (hroom : (l.length + ys.length) * bytes ≤ 140737488355328) (h63 : l.length + ys.length ≤ maxLen) (hbase : base ≤ w.heap.size)
    (h : ∀ v' w', Own f base e c w' v' (l ++ ys) → Below base w w' → wpList P ops Q rest (a.put o.dst v') w')
    (hg0 : g0 = w.heap.size := by first | rfl | (simp; done)) (hn0 : n0 = l.length := by first | rfl | (simp; done)) (hg : g = w.heap.size + 1 := by first | rfl | (simp; done)) (hn : n = ys.length := by first | rfl | (simp; done)) : wpList P ops Q (o :: rest) a ((w.alloc (.cells cs0 e fr0)).alloc (.cells cs e fr)) := by
  subst hcs0 hcs hg0 hn0 hg hn
  refine wpList_plain hgd fun K hK => ?_
  obtain ⟨v', w', hr, r1, r2⟩ := run_app_full (P := P) ((w.alloc (.cells (l.flatMap f).toArray e fr0)).alloc (.cells (ys.flatMap f).toArray e fr)) base t o.type e c bytes hF hT w.heap.size (w.heap.size + 1) l ys hpos
    (fun j u hj => by
      rw [cell_of_row _ _ _ (l.flatMap f).toArray e fr0 (by rw [Below.heap_alloc _ _ _ (by simp)]; exact heap_alloc_new w _)]
      simpa using hj)
    (fun j u hj => by
      rw [cell_of_row _ _ _ (ys.flatMap f).toArray e fr (by have := heap_alloc_new (w.alloc (.cells (l.flatMap f).toArray e fr0)) (.cells (ys.flatMap f).toArray e fr); simpa using this)]
      simpa using hj) hroom h63 (by simp; omega)
  unfold Oper.wp execOp
  simp only [ho, resolve, invoke, builtin, Sem.run_bind, Sem.run_pure, Result.andThen_ok, List.map_toArray, List.map_cons, List.map_nil, hs, hx, hr]
  exact hK _ _ (h v' w' r1 ((((Below.refl base w).alloc hbase _).alloc (by simp; omega) _).grown r2 (by simp; omega) (fun _ hh => nomatch hh)))
end Wb

namespace Wb
open Go Go.RowKit
structure Wr where
  at_ : Int
  text : ByteArray
structure Dsk where
  safe : List ByteArray
  writes : List Wr
instance : Inhabited Wr := ⟨⟨0, ⟨#[]⟩⟩⟩
instance : Inhabited ByteArray := ⟨⟨#[]⟩⟩
def wrC (x : Wr) : List Value := [.int .i64 x.at_, .string x.text]
theorem wrC_flat : Flat wrC 2 := ⟨fun _ => rfl, fun _ u hu => by simp [wrC] at hu; rcases hu with rfl | rfl <;> rfl, by decide⟩
def isAt (n : Int) : Bool := decide (0 ≤ n ∧ n < 37)
def ok32 (s : ByteArray) : Bool := decide (s.size = 32)
def wrOk (x : Wr) : Bool := isAt x.at_ && ok32 x.text
def goodD (d : Dsk) : Bool := decide (d.safe.length = 37) && decide (d.writes.length ≤ 200) && d.safe.all ok32 && d.writes.all wrOk
theorem goodD_iff (d : Dsk) : goodD d = true ↔ d.safe.length = 37 ∧ d.writes.length ≤ 200 ∧ d.safe.all ok32 = true ∧ d.writes.all wrOk = true := by
  unfold goodD; simp only [Bool.and_eq_true, decide_eq_true_iff, and_assoc]
/-- A disk by value, as it is read. -/
def RDisk (w : World) (v : Value) (d : Dsk) : Prop :=
  ∃ vs vw, v = .agg #[vs, vw] ∧ RL strC w vs d.safe ∧ RL wrC w vw d.writes ∧ d.safe.length ≤ 8796093022208 ∧ d.writes.length ≤ 5864062014805
theorem RDisk.below {w w' : World} {v : Value} {d : Dsk} (h : RDisk w v d) (hb : Below w.heap.size w w') : RDisk w' v d := by
  obtain ⟨vs, vw, hv, h1, h2, h3⟩ := h
  exact ⟨vs, vw, hv, h1.below hb, h2.below hb, h3⟩
/-- What IndexFunc says of a list of which all is well, or not. -/
def idxIs (b : Bool) (r : Int) : Prop := if b = true then r = -1 else 0 ≤ r
/-! ### All of a list, so far -/
theorem all_step {α : Type} {p : α → Bool} {l : List α} {k : Nat} (hk : k < l.length) (h : (l.take k).all p = true) (hp : p l[k] = true) : (l.take (k + 1)).all p = true := by
  rw [List.take_succ_eq_append_getElem hk, List.all_append, h]
  simp [hp]
theorem all_no {α : Type} {p : α → Bool} {l : List α} {k : Nat} (hk : k < l.length) (hp : p l[k] = false) : l.all p = false := by
  rw [← Bool.not_eq_true, List.all_eq_true]
  intro h
  rw [h _ (List.getElem_mem hk)] at hp
  exact Bool.noConfusion hp
theorem all_full {α : Type} {p : α → Bool} {l : List α} {k : Nat} (hk : k ≤ l.length) (hn : ¬ k < l.length) (h : (l.take k).all p = true) : l.all p = true := by
  rw [List.take_of_length_le (by omega)] at h; exact h
/-! ### Reading -/
/-- The last text that is written at a place. -/
def lastT (s : ByteArray) (n : Int) (ws : List Wr) : ByteArray := ws.foldl (fun r x => if x.at_ = n then x.text else r) s
theorem lastT_nil (s : ByteArray) (n : Int) : lastT s n [] = s := rfl
theorem lastT_step (s : ByteArray) (n : Int) (ws : List Wr) (x : Wr) : lastT s n (ws ++ [x]) = if x.at_ = n then x.text else lastT s n ws := by simp [lastT]
theorem lastT_hit (s : ByteArray) (n : Int) {ws : List Wr} {k : Nat} (hk : k < ws.length) (h : ws[k].at_ = n) : lastT s n (ws.take (k + 1)) = ws[k].text := by
  rw [List.take_succ_eq_append_getElem hk, lastT_step, if_pos h]
theorem lastT_miss (s : ByteArray) (n : Int) {ws : List Wr} {k : Nat} (hk : k < ws.length) (h : ws[k].at_ ≠ n) : lastT s n (ws.take (k + 1)) = lastT s n (ws.take k) := by
  rw [List.take_succ_eq_append_getElem hk, lastT_step, if_neg h]
def safeAt (d : Dsk) (n : Int) : ByteArray := d.safe.getD n.toNat ⟨#[]⟩
def readD (d : Dsk) (n : Int) : ByteArray := if goodD d = true ∧ isAt n = true then lastT (safeAt d n) n d.writes else ⟨#[]⟩
def readE (d : Dsk) (n : Int) : Int := if goodD d = true ∧ isAt n = true then 0 else 2
/-- All texts that a block has had since it was safe, that one first. -/
def afterL (s : ByteArray) (n : Int) (ws : List Wr) : List ByteArray := s :: (ws.filter (fun x => decide (x.at_ = n))).map (·.text)
theorem afterL_nil (s : ByteArray) (n : Int) : afterL s n [] = [s] := rfl
theorem afterL_step (s : ByteArray) (n : Int) (ws : List Wr) (x : Wr) : afterL s n (ws ++ [x]) = if x.at_ = n then afterL s n ws ++ [x.text] else afterL s n ws := by
  by_cases h : x.at_ = n <;> simp [afterL, h]
theorem afterL_len (s : ByteArray) (n : Int) (ws : List Wr) : (afterL s n ws).length ≤ ws.length + 1 := by
  simp only [afterL, List.length_cons, List.length_map]
  have := List.length_filter_le (fun x : Wr => decide (x.at_ = n)) ws
  omega
theorem afterL_hit (s : ByteArray) (n : Int) {ws : List Wr} {k : Nat} (hk : k < ws.length) (h : ws[k].at_ = n) : afterL s n (ws.take (k + 1)) = afterL s n (ws.take k) ++ [ws[k].text] := by
  rw [List.take_succ_eq_append_getElem hk, afterL_step, if_pos h]
theorem afterL_miss (s : ByteArray) (n : Int) {ws : List Wr} {k : Nat} (hk : k < ws.length) (h : ws[k].at_ ≠ n) : afterL s n (ws.take (k + 1)) = afterL s n (ws.take k) := by
  rw [List.take_succ_eq_append_getElem hk, afterL_step, if_neg h]
theorem afterL_ne (s : ByteArray) (n : Int) (ws : List Wr) : afterL s n ws ≠ [] := by simp [afterL]
theorem after_last (s : ByteArray) (n : Int) (ws : List Wr) : (afterL s n ws).getLast? = some (lastT s n ws) := by
  have key : ∀ k, k ≤ ws.length → (afterL s n (ws.take k)).getLast? = some (lastT s n (ws.take k)) := by
    intro k
    induction k with
    | zero => intro _; rfl
    | succ k ih =>
      intro hk
      by_cases h : ws[k].at_ = n
      · rw [afterL_hit s n hk h, lastT_hit s n hk h]; simp
      · rw [afterL_miss s n hk h, lastT_miss s n hk h]; exact ih (by omega)
  have := key ws.length (Nat.le_refl _)
  rwa [List.take_length] at this
/-! ### Writing -/
def putE (d : Dsk) (n : Int) (t : ByteArray) : Int := if ¬ (goodD d = true ∧ isAt n = true) then 2 else if t.size ≠ 32 then 1 else if 200 ≤ d.writes.length then 11 else 0
def putD (d : Dsk) (n : Int) (t : ByteArray) : Dsk := if putE d n t = 0 then ⟨d.safe, d.writes ++ [⟨n, t⟩]⟩ else d
end Wb

namespace Wb
open Go Go.RowKit
structure Cpy where
  block : Int
  text : ByteArray
instance : Inhabited Cpy := ⟨⟨0, ⟨#[]⟩⟩⟩
def cpyC (x : Cpy) : List Value := [.int .i64 x.block, .string x.text]
theorem cpyC_flat : Flat cpyC 2 := ⟨fun _ => rfl, fun _ u hu => by simp [cpyC] at hu; rcases hu with rfl | rfl <;> rfl, by decide⟩
structure Hnd where
  on : Bool
  left : Int
structure Txn where
  seq : Int
  mt : List Cpy
  dt : List Cpy
  rev : List Int
  h0 : Hnd
  h1 : Hnd
  h2 : Hnd
def hnd0 : Hnd := ⟨false, 0⟩
def txn0 (seq : Int) : Txn := ⟨seq, [], [], [], hnd0, hnd0, hnd0⟩

/-! ### Lists of copies -/
def blks (l : List Cpy) : List Int := l.map (·.block)
/-- Is a copy of block b among them? -/
def hasB (l : List Cpy) (b : Int) : Bool := l.any (fun c => c.block == b)
def inI (l : List Int) (b : Int) : Bool := l.any (fun x => x == b)
def getC (l : List Cpy) (b : Int) : Option ByteArray := (l.find? (fun c => c.block == b)).map (·.text)
def copiesB (l : List Cpy) : Bool := rise (blks l) && l.all (fun c => ok32 c.text)
def hOk (h : Hnd) : Bool := decide (0 ≤ h.left ∧ h.left ≤ 24) && (h.on || decide (h.left = 0))
def seqOk (s : Int) : Bool := decide (1 ≤ s ∧ s ≤ 2147483647)
def apart (t : Txn) : Bool := t.rev.all (fun b => !hasB t.mt b && !hasB t.dt b) && t.mt.all (fun c => !hasB t.dt c.block)
def goodT (t : Txn) : Bool := seqOk t.seq && copiesB t.mt && copiesB t.dt && rise t.rev && apart t && (hOk t.h0 && hOk t.h1 && hOk t.h2)
theorem goodT_iff (t : Txn) : goodT t = true ↔ seqOk t.seq = true ∧ copiesB t.mt = true ∧ copiesB t.dt = true ∧ rise t.rev = true ∧ apart t = true ∧ hOk t.h0 = true ∧ hOk t.h1 = true ∧ hOk t.h2 = true := by
  unfold goodT; simp only [Bool.and_eq_true, and_assoc]

/-- Three cells and seven: a transaction by value. -/
def txnV (t : Txn) (vm vd vr : Value) : Value := .agg #[.int .i64 t.seq, vm, vd, vr, .bool t.h0.on, .int .i64 t.h0.left, .bool t.h1.on, .int .i64 t.h1.left, .bool t.h2.on, .int .i64 t.h2.left]
def RTxn (w : World) (v : Value) (t : Txn) : Prop :=
  ∃ vm vd vr, v = txnV t vm vd vr ∧ RL cpyC w vm t.mt ∧ RL cpyC w vd t.dt ∧ RL intC w vr t.rev ∧ t.mt.length ≤ 5864062014805 ∧ t.dt.length ≤ 5864062014805 ∧ t.rev.length ≤ 17592186044160
theorem RTxn.below {w w' : World} {v : Value} {t : Txn} (h : RTxn w v t) (hb : Below w.heap.size w w') : RTxn w' v t := by
  obtain ⟨vm, vd, vr, hv, h1, h2, h3, h4⟩ := h
  exact ⟨vm, vd, vr, hv, h1.below hb, h2.below hb, h3.below hb, h4⟩

/-! ### Lists of transactions: what their cells hold -/
structure SlV where
  a : Option Addr
  n : Nat
  c : Nat
def SlV.val (x : SlV) : Value := .slice x.a x.n x.c
structure TV where
  t : Txn
  m : SlV
  d : SlV
  r : SlV
def tvC (x : TV) : List Value := [.int .i64 x.t.seq, x.m.val, x.d.val, x.r.val, .bool x.t.h0.on, .int .i64 x.t.h0.left, .bool x.t.h1.on, .int .i64 x.t.h1.left, .bool x.t.h2.on, .int .i64 x.t.h2.left]
theorem tvC_flat : Flat tvC 10 := ⟨fun _ => rfl, fun _ u hu => by simp [tvC, SlV.val] at hu; rcases hu with rfl | rfl | rfl | rfl | rfl | rfl | rfl | rfl | rfl | rfl <;> rfl, by decide⟩
def TV.val (x : TV) : Value := txnV x.t x.m.val x.d.val x.r.val
/-- The cells of x read as the transaction x.t. -/
def TV.ok (w : World) (x : TV) : Prop := RTxn w x.val x.t
theorem RTxn.tv {w : World} {v : Value} {t : Txn} (h : RTxn w v t) : ∃ x : TV, x.t = t ∧ v = x.val ∧ x.ok w := by
  have hh := h
  obtain ⟨vm, vd, vr, rfl, h1, h2, h3, h4⟩ := h
  obtain ⟨a, c, rfl, _⟩ := h1.form
  obtain ⟨a2, c2, rfl, _⟩ := h2.form
  obtain ⟨a3, c3, rfl, _⟩ := h3.form
  exact ⟨⟨t, ⟨a, _, c⟩, ⟨a2, _, c2⟩, ⟨a3, _, c3⟩⟩, rfl, rfl, hh⟩
/-- A slice of transactions, as it is read. -/
def RTxns (w : World) (v : Value) (l : List Txn) : Prop := ∃ xs : List TV, RL tvC w v xs ∧ xs.map (·.t) = l ∧ (∀ x ∈ xs, x.ok w) ∧ xs.length ≤ 1099511627744
theorem RTxns.below {w w' : World} {v : Value} {l : List Txn} (h : RTxns w v l) (hb : Below w.heap.size w w') : RTxns w' v l := by
  obtain ⟨xs, h1, h2, h3, h4⟩ := h
  exact ⟨xs, h1.below hb, h2, fun x hx => (h3 x hx).below hb, h4⟩
theorem RTxns.nil (w : World) : RTxns w (.slice none 0 0) [] := ⟨[], RL.nil _ _, rfl, (fun _ h => absurd h List.not_mem_nil), by decide⟩
theorem RTxns.form {w : World} {v : Value} {l : List Txn} (h : RTxns w v l) : ∃ a c, v = .slice a l.length c ∧ l.length ≤ 1099511627744 := by
  obtain ⟨xs, h1, rfl, h3, h4⟩ := h
  obtain ⟨a, c, hv, _⟩ := h1.form
  exact ⟨a, c, by rw [hv, List.length_map], by rw [List.length_map]; exact h4⟩
theorem RL.at10 {α : Type} {f : α → List Value} {w : World} {a : Option Addr} {n cap : Nat} {l : List α} (g0 g1 g2 g3 g4 g5 g6 g7 g8 g9 : α → Value) (hf : ∀ x, f x = [g0 x, g1 x, g2 x, g3 x, g4 x, g5 x, g6 x, g7 x, g8 x, g9 x]) (h : RL f w (.slice a n cap) l) {k : Nat} (hk : k < l.length) :
    ∃ b off, a = some ⟨b, off, none⟩ ∧ w.cell? ⟨b, off + k * 10, none⟩ = some (g0 l[k]) ∧ w.cell? ⟨b, off + k * 10 + 1, none⟩ = some (g1 l[k]) ∧ w.cell? ⟨b, off + k * 10 + 2, none⟩ = some (g2 l[k]) ∧ w.cell? ⟨b, off + k * 10 + 3, none⟩ = some (g3 l[k]) ∧ w.cell? ⟨b, off + k * 10 + 4, none⟩ = some (g4 l[k]) ∧ w.cell? ⟨b, off + k * 10 + 5, none⟩ = some (g5 l[k]) ∧ w.cell? ⟨b, off + k * 10 + 6, none⟩ = some (g6 l[k]) ∧ w.cell? ⟨b, off + k * 10 + 7, none⟩ = some (g7 l[k]) ∧ w.cell? ⟨b, off + k * 10 + 8, none⟩ = some (g8 l[k]) ∧ w.cell? ⟨b, off + k * 10 + 9, none⟩ = some (g9 l[k]) := by
  obtain ⟨b, off, ha, hc⟩ := RL.at (c := 10) (fun x => by rw [hf]; rfl) h hk (by decide)
  exact ⟨b, off, ha, hc 0 _ (by rw [hf]; rfl), hc 1 _ (by rw [hf]; rfl), hc 2 _ (by rw [hf]; rfl), hc 3 _ (by rw [hf]; rfl), hc 4 _ (by rw [hf]; rfl), hc 5 _ (by rw [hf]; rfl), hc 6 _ (by rw [hf]; rfl), hc 7 _ (by rw [hf]; rfl), hc 8 _ (by rw [hf]; rfl), hc 9 _ (by rw [hf]; rfl)⟩
/-- Element k of a slice of transactions: ten cells that read as it. -/
theorem RTxns.at {w : World} {a : Option Addr} {n cap : Nat} {l : List Txn} (h : RTxns w (.slice a n cap) l) {k : Nat} (hk : k < l.length) :
    ∃ b off vm vd vr, a = some ⟨b, off, none⟩ ∧ RTxn w (txnV l[k] vm vd vr) l[k] ∧ w.cell? ⟨b, off + k * 10, none⟩ = some (.int .i64 l[k].seq) ∧ w.cell? ⟨b, off + k * 10 + 1, none⟩ = some vm ∧ w.cell? ⟨b, off + k * 10 + 2, none⟩ = some vd ∧ w.cell? ⟨b, off + k * 10 + 3, none⟩ = some vr ∧ w.cell? ⟨b, off + k * 10 + 4, none⟩ = some (.bool l[k].h0.on) ∧ w.cell? ⟨b, off + k * 10 + 5, none⟩ = some (.int .i64 l[k].h0.left) ∧ w.cell? ⟨b, off + k * 10 + 6, none⟩ = some (.bool l[k].h1.on) ∧ w.cell? ⟨b, off + k * 10 + 7, none⟩ = some (.int .i64 l[k].h1.left) ∧ w.cell? ⟨b, off + k * 10 + 8, none⟩ = some (.bool l[k].h2.on) ∧ w.cell? ⟨b, off + k * 10 + 9, none⟩ = some (.int .i64 l[k].h2.left) := by
  obtain ⟨xs, h1, rfl, h3, h4⟩ := h
  have hk' : k < xs.length := by simpa using hk
  obtain ⟨b, off, ha, c0, c1, c2, c3, c4, c5, c6, c7, c8, c9⟩ := RL.at10 (fun x : TV => .int .i64 x.t.seq) (fun x => x.m.val) (fun x => x.d.val) (fun x => x.r.val) (fun x => .bool x.t.h0.on) (fun x => .int .i64 x.t.h0.left) (fun x => .bool x.t.h1.on) (fun x => .int .i64 x.t.h1.left) (fun x => .bool x.t.h2.on) (fun x => .int .i64 x.t.h2.left) (fun _ => rfl) h1 hk'
  have hx := h3 xs[k] (List.getElem_mem hk')
  simp only [List.getElem_map]
  exact ⟨b, off, _, _, _, ha, hx, c0, c1, c2, c3, c4, c5, c6, c7, c8, c9⟩

/-! ### Looking for a copy -/
theorem hasB_get (l : List Cpy) (b : Int) : hasB l b = (getC l b).isSome := by
  unfold hasB getC
  rw [Option.isSome_map]
  induction l with
  | nil => rfl
  | cons c l ih =>
    rw [List.any_cons, List.find?_cons]
    cases c.block == b with
    | true => rfl
    | false => simpa using ih
theorem getC_step {l : List Cpy} {b : Int} {k : Nat} (hk : k < l.length) (h : hasB (l.take k) b = false) (hb : l[k].block = b) : getC l b = some l[k].text := by
  have hn : (l.take k).find? (fun c => c.block == b) = none := by
    rw [List.find?_eq_none]
    intro x hx hh
    unfold hasB at h
    rw [List.any_eq_false] at h
    exact h x hx hh
  have e : l.find? (fun c => c.block == b) = some l[k] := by
    conv => lhs; rw [← List.take_append_drop k l]
    rw [List.find?_append, hn, Option.none_or, List.drop_eq_getElem_cons hk, List.find?_cons, beq_iff_eq.2 hb]
  unfold getC
  rw [e]; rfl
theorem hasB_step {l : List Cpy} {b : Int} {k : Nat} (hk : k < l.length) : hasB (l.take (k + 1)) b = (hasB (l.take k) b || (l[k].block == b)) := by
  unfold hasB
  rw [List.take_succ_eq_append_getElem hk, List.any_append]
  simp
theorem hasB_full {l : List Cpy} {b : Int} {k : Nat} (hk : ¬ k < l.length) : hasB (l.take k) b = hasB l b := by rw [List.take_of_length_le (by omega)]
theorem getC_none {l : List Cpy} {b : Int} (h : hasB l b = false) : getC l b = none := by
  rw [hasB_get] at h
  cases hg : getC l b with
  | none => rfl
  | some x => rw [hg] at h; cases h
theorem inI_step {l : List Int} {b : Int} {k : Nat} (hk : k < l.length) : inI (l.take (k + 1)) b = (inI (l.take k) b || (l[k] == b)) := by
  unfold inI
  rw [List.take_succ_eq_append_getElem hk, List.any_append]
  simp
theorem inI_full {l : List Int} {b : Int} {k : Nat} (hk : ¬ k < l.length) : inI (l.take k) b = inI l b := by rw [List.take_of_length_le (by omega)]
theorem inI_hit {l : List Int} {b : Int} {k : Nat} (hk : k < l.length) (hb : l[k] = b) : inI l b = true := by
  unfold inI
  exact List.any_eq_true.2 ⟨_, List.getElem_mem hk, beq_iff_eq.2 hb⟩
theorem hasB_hit {l : List Cpy} {b : Int} {k : Nat} (hk : k < l.length) (hb : l[k].block = b) : hasB l b = true := by
  unfold hasB
  exact List.any_eq_true.2 ⟨_, List.getElem_mem hk, beq_iff_eq.2 hb⟩
end Wb

namespace Wb
open Go Go.ChangeShapes Go.WideShapes Go.ChangeAt Go.RowKit Go.Joins Go.Deep
section
variable {H : Type} {enc : TypeId × Value → H} {P : Program} {w : World} {base : Nat} {spare : Nat → Bool} {held : Bool}
theorem read_RLq {α : Type} [Inhabited α] {f : α → List Value} {c : Nat} {Q : α → DataW H → Prop} (hf : ∀ x, (f x).length = c) (h0 : 0 < c) {t e : TypeId} {fuel : Nat} {cs : List Value} {x : DataW H × List MemPlace} (ht : P.underlying t = some (.slice e)) (hc : P.cellsOf e = c)
    (hread : ∀ n cs' y, DataW.trod enc P w base spare held n e cs' = some y → cs'.length = c → ∃ x : α, cs' = f x ∧ Q x y.1) (h : DataW.trod enc P w base spare held fuel t cs = some x) :
    ∃ (v : Value) (l : List α), cs = [v] ∧ RL f w v l ∧ ((x.1 = .nil ∧ l = []) ∨ ∃ el sp, x.1 = .slice el sp ∧ el.length = l.length ∧ ∀ (i : Nat) (z : α), l[i]? = some z → ∃ y, el[i]? = some y ∧ Q z y) := by
  rcases open_slice ht h with ⟨rfl, rfl⟩ | ⟨a, len, cap, m, n, D, Pl, rfl, hb, hl, hm, hmm, rfl, hx⟩
  · exact ⟨_, [], rfl, RL.nil f w, .inl ⟨rfl, rfl⟩⟩
  have hlm : len ≤ m := by rw [hmm]; split <;> omega
  have each : ∀ i, i < len → ∃ x : α, (∀ r, r < c → w.cell? (a.add (i * c + r)) = (f x)[r]?) ∧ Q x (D i) := by
    intro i hi
    obtain ⟨cs', h1, h2⟩ := hx i (by omega)
    rw [hc] at h1
    obtain ⟨_, hlen, hcell⟩ := World.cells?_some h1
    obtain ⟨x, rfl, hq⟩ := hread _ _ _ h2 hlen
    exact ⟨x, fun r hr => by have := hcell r hr; rwa [add_add] at this, hq⟩
  obtain ⟨X, hX⟩ := choose_lt each
  refine ⟨_, (List.range len).map X, rfl, ?_, .inr ⟨_, _, rfl, by simp, ?_⟩⟩
  rotate_left
  · intro i z hz
    rw [List.getElem?_map, Option.map_eq_some_iff] at hz
    obtain ⟨k, hk, rfl⟩ := hz
    obtain ⟨hkl, rfl⟩ := List.getElem?_eq_some_iff.1 hk
    simp only [List.length_range] at hkl
    refine ⟨D i, by rw [List.getElem?_map, hk]; simp, ?_⟩
    simpa using (hX i hkl).2
  refine ⟨some a, cap, by simp, by simpa using hl, hm, ?_⟩
  by_cases hlen : len = 0
  · subst hlen; left; rfl
  right
  have hspot : a.spot = none := by
    have h1 := (hX 0 (by omega)).1 0 h0
    have h2 : (f (X 0))[0]? ≠ none := by rw [Ne, List.getElem?_eq_none_iff, hf]; omega
    obtain ⟨u, hu⟩ := Option.ne_none_iff_exists'.1 h2
    rw [hu] at h1
    simpa [Addr.add] using World.cell?_spot h1
  obtain ⟨b, off, spot⟩ := a
  obtain rfl : spot = none := hspot
  refine ⟨b, off, rfl, fun j u hj => ?_⟩
  obtain ⟨i, x, r, h1, rfl, h3, h4⟩ := flat_at hf _ _ _ hj
  rw [List.getElem?_map, Option.map_eq_some_iff] at h1
  obtain ⟨k, hk, rfl⟩ := h1
  obtain ⟨hkl, rfl⟩ := List.getElem?_eq_some_iff.1 hk
  simp only [List.length_range] at hkl
  simp only [List.getElem_range] at h3
  have := (hX i hkl).1 r h4
  rw [h3, Addr.add_lit] at this
  exact this
end
theorem weightsAll_mem {H : Type} {P : Program} {e : TypeId} : ∀ {l : List (DataW H)} {i : Nat} {y : DataW H}, l[i]? = some y → ∀ n ∈ y.weights P e, n ∈ DataW.weightsAll P e l
  | d :: r, 0, y, h, n, hn => by
    simp only [List.getElem?_cons_zero, Option.some.injEq] at h
    subst h
    simp only [DataW.weightsAll, List.mem_append]
    exact .inl hn
  | d :: r, i + 1, y, h, n, hn => by
    simp only [List.getElem?_cons_succ] at h
    simp only [DataW.weightsAll, List.mem_append]
    exact .inr (weightsAll_mem h n hn)
  | [], _, _, h, _, _ => by simp at h
instance : Inhabited TV := ⟨⟨txn0 0, ⟨none, 0, 0⟩, ⟨none, 0, 0⟩, ⟨none, 0, 0⟩⟩⟩
end Wb
namespace Go.Proofs.Ytjhmfljlclajnac
open Go.ChangeShapes Go.WideShapes Go.ChangeAt Go.RowKit Go.Joins Wb
set_option maxRecDepth 100000
section
variable {H : Type} {enc : TypeId × Value → H} {W : World} {base : Nat}
theorem read_copies {fuel : Nat} {cs : List Value} {x : DataW H × List MemPlace} (h : DataW.trod enc Try.prog W 0 (fun _ => true) true fuel 22 cs = some x) :
    ∃ (v : Value) (l : List Cpy), cs = [v] ∧ RL cpyC W v l ∧ ((x.1 = .nil ∧ l = []) ∨ ∃ el sp, x.1 = .slice el sp ∧ el.length = l.length) :=
  read_RL (c := 2) (fun _ => rfl) (by decide) Try.underlying22 (by kernel_rfl) (fun n cs' y hy hlen => by
    obtain ⟨y0, y1, n, _, _, h0, h1⟩ := trod_struct2 Try.underlying68 hy
    match cs', hlen with
    | [u0, u1], _ =>
      have h0 : DataW.trod enc Try.prog W 0 (fun _ => true) true n 3 [u0] = some y0 := h0
      have h1 : DataW.trod enc Try.prog W 0 (fun _ => true) true n 9 [u1] = some y1 := h1
      obtain ⟨a, e0, _⟩ := DataW.trod_int Try.underlying3 h0
      obtain ⟨b, e1, _⟩ := DataW.trod_string Try.underlying9 h1
      simp at e0 e1
      subst e0 e1
      exact ⟨⟨a, b⟩, rfl⟩) h
theorem read_hnd {n : Nat} {u0 u1 : Value} {x : DataW H × List MemPlace} (hy : DataW.trod enc Try.prog W 0 (fun _ => true) true n 25 [u0, u1] = some x) : ∃ h : Hnd, u0 = .bool h.on ∧ u1 = .int .i64 h.left := by
  obtain ⟨y0, y1, n, _, _, h0, h1⟩ := trod_struct2 Try.underlying25 hy
  have h0 : DataW.trod enc Try.prog W 0 (fun _ => true) true n 4 [u0] = some y0 := h0
  have h1 : DataW.trod enc Try.prog W 0 (fun _ => true) true n 3 [u1] = some y1 := h1
  obtain ⟨a, e0, _⟩ := DataW.trod_bool Try.underlying4 h0
  obtain ⟨b, e1, _⟩ := DataW.trod_int Try.underlying3 h1
  simp at e0 e1
  subst e0 e1
  exact ⟨⟨a, b⟩, rfl, rfl⟩
theorem read_txnCells {n : Nat} {cs : List Value} {x : DataW H × List MemPlace} (hlen : cs.length = 10) (h : DataW.trod enc Try.prog W 0 (fun _ => true) true n 28 cs = some x) :
    ∃ tv : TV, cs = tvC tv ∧ ((x.1.weights Try.prog 28).all (· ≤ reachBytes) = true → tv.ok W) := by
  obtain ⟨xs, m, _, hx, hl, hln, hg⟩ := DataW.trod_struct Try.underlying28 h
  match cs, hlen, xs, hln with
  | [u0, u1, u2, u3, u4, u5, u6, u7, u8, u9], _, [y0, y1, y2, y3, y4], _ =>
    have h0 : DataW.trod enc Try.prog W 0 (fun _ => true) true m 3 [u0] = some y0 := hg 0 _ rfl
    have h1 : DataW.trod enc Try.prog W 0 (fun _ => true) true m 22 [u1] = some y1 := hg 1 _ rfl
    have h2 : DataW.trod enc Try.prog W 0 (fun _ => true) true m 22 [u2] = some y2 := hg 2 _ rfl
    have h3 : DataW.trod enc Try.prog W 0 (fun _ => true) true m 23 [u3] = some y3 := hg 3 _ rfl
    have h4 : DataW.trod enc Try.prog W 0 (fun _ => true) true m 26 [u4, u5, u6, u7, u8, u9] = some y4 := hg 4 _ rfl
    obtain ⟨a, e0, _⟩ := DataW.trod_int Try.underlying3 h0
    obtain ⟨v1, l1, e1, r1, d1⟩ := read_copies h1
    obtain ⟨v2, l2, e2, r2, d2⟩ := read_copies h2
    obtain ⟨v3, l3, e3, r3, d3⟩ := read_ints h3
    obtain ⟨zs, m2, _, hz, _, hzl, hh⟩ := DataW.trod_array Try.underlying26 h4
    match zs, hzl with
    | [z0, z1, z2], _ =>
    have k0 : DataW.trod enc Try.prog W 0 (fun _ => true) true m2 25 [u4, u5] = some z0 := hh 0 (by decide)
    have k1 : DataW.trod enc Try.prog W 0 (fun _ => true) true m2 25 [u6, u7] = some z1 := hh 1 (by decide)
    have k2 : DataW.trod enc Try.prog W 0 (fun _ => true) true m2 25 [u8, u9] = some z2 := hh 2 (by decide)
    obtain ⟨p0, f0, f1⟩ := read_hnd k0
    obtain ⟨p1, f2, f3⟩ := read_hnd k1
    obtain ⟨p2, f4, f5⟩ := read_hnd k2
    simp only [List.cons.injEq, and_true] at e0 e1 e2 e3
    subst e0 e1 e2 e3 f0 f1 f2 f3 f4 f5
    obtain ⟨a1, c1, rfl, _⟩ := r1.form
    obtain ⟨a2, c2, rfl, _⟩ := r2.form
    obtain ⟨a3, c3, rfl, _⟩ := r3.form
    refine ⟨⟨⟨a, l1, l2, l3, p0, p1, p2⟩, ⟨a1, _, c1⟩, ⟨a2, _, c2⟩, ⟨a3, _, c3⟩⟩, rfl, fun hw => ?_⟩
    subst hx
    have hw2 : (DataW.weightsEach Try.prog [3, 22, 22, 23, 26] [y0.1, y1.1, y2.1, y3.1, y4.1]).all (· ≤ reachBytes) = true := by
      simpa [DataW.weights, Try.underlying28] using hw
    have b1 : Try.prog.bytesOf 68 = 24 := by kernel_rfl
    have b3 : Try.prog.bytesOf 3 = 8 := by kernel_rfl
    refine ⟨_, _, _, rfl, r1, r2, r3, ?_, ?_, ?_⟩
    · rcases d1 with ⟨_, rfl⟩ | ⟨el, sp, hy, hel⟩
      · simp
      · have := sized_slice hw2 (j := 1) rfl (by simp [hy]; exact ⟨rfl, rfl⟩) Try.underlying22
        rw [b1] at this
        unfold reachBytes at this
        dsimp only
        omega
    · rcases d2 with ⟨_, rfl⟩ | ⟨el, sp, hy, hel⟩
      · simp
      · have := sized_slice hw2 (j := 2) rfl (by simp [hy]; exact ⟨rfl, rfl⟩) Try.underlying22
        rw [b1] at this
        unfold reachBytes at this
        dsimp only
        omega
    · rcases d3 with ⟨_, rfl⟩ | ⟨el, sp, hy, hel⟩
      · simp
      · have := sized_slice hw2 (j := 3) rfl (by simp [hy]; exact ⟨rfl, rfl⟩) Try.underlying23
        rw [b3] at this
        unfold reachBytes at this
        dsimp only
        omega
theorem tvVal (x : TV) : x.val = .agg (tvC x).toArray := rfl
theorem read_txn {v : Value} {d : DataW H} {p : List MemPlace} (hv : Value.okWide Try.prog W .any base 28 v)
    (h : DataW.Trod enc Try.prog W 0 (fun _ => true) true 28 v d p) (hw : (d.weights Try.prog 28).all (· ≤ reachBytes) = true) : ∃ t : Txn, RTxn W v t := by
  obtain ⟨cs, rfl, hsz⟩ := okWide_struct Try.underlying28 hv
  obtain ⟨fuel, hf⟩ := h
  have hsz' : cs.size = 10 := hsz.trans (by kernel_rfl)
  obtain ⟨ls⟩ := cs
  have hf' : DataW.trod enc Try.prog W 0 (fun _ => true) true fuel 28 ls = some (d, p) := hf
  obtain ⟨tv, hc, hok⟩ := read_txnCells (by simpa using hsz') hf'
  refine ⟨tv.t, ?_⟩
  have hk := hok hw
  rw [hc]
  exact hk
theorem open_copies {v : Value} {d : DataW H} {p : List MemPlace} (hv : Value.okWide Try.prog W .any base 22 v)
    (h : DataW.Trod enc Try.prog W 0 (fun _ => true) true 22 v d p) (hw : (d.weights Try.prog 22).all (· ≤ reachBytes) = true) : ∃ l : List Cpy, RL cpyC W v l ∧ l.length ≤ 5864062014805 := by
  obtain ⟨a, n, c, rfl⟩ := okWide_slice Try.underlying22 hv
  obtain ⟨fuel, hf⟩ := h
  obtain ⟨v', l, hc, hr, hd⟩ := read_copies (cs := [.slice a n c]) hf
  simp only [List.cons.injEq, and_true] at hc
  subst hc
  refine ⟨l, hr, ?_⟩
  rcases hd with ⟨_, rfl⟩ | ⟨el, sp, hy, hel⟩
  · simp
  · have b1 : Try.prog.bytesOf 68 = 24 := by kernel_rfl
    have hy' : d = .slice el sp := hy
    have := List.all_eq_true.1 hw ((el.length + sp.length) * 24) (by rw [hy']; simp [DataW.weights, Try.underlying22, b1])
    unfold reachBytes at this
    simp only [decide_eq_true_eq] at this
    omega
end
end Go.Proofs.Ytjhmfljlclajnac

namespace Wb
open Go Go.RowKit
def dropC (l : List Cpy) (b : Int) : List Cpy := l.filter (fun c => c.block != b)
theorem dropC_step {l : List Cpy} {b : Int} {k : Nat} (hk : k < l.length) : dropC (l.take (k + 1)) b = if l[k].block = b then dropC (l.take k) b else dropC (l.take k) b ++ [l[k]] := by
  unfold dropC
  rw [List.take_succ_eq_append_getElem hk, List.filter_append]
  by_cases h : l[k].block = b
  · rw [if_pos h]; simp [h]
  · rw [if_neg h]; simp [h]
theorem dropC_len (l : List Cpy) (b : Int) : (dropC l b).length ≤ l.length := List.length_filter_le _ _
def withK (l : List Cpy) (b : Int) (s : ByteArray) (k : Nat) : Option Cpy := if (k : Int) = b then some ⟨b, s⟩ else (getC l k).map fun t => ⟨k, t⟩
def withN (l : List Cpy) (b : Int) (s : ByteArray) (n : Nat) : List Cpy := (List.range n).filterMap (withK l b s)
def withL (l : List Cpy) (b : Int) (s : ByteArray) : List Cpy := withN l b s 12
theorem withN_step (l : List Cpy) (b : Int) (s : ByteArray) (k : Nat) : withN l b s (k + 1) = withN l b s k ++ (withK l b s k).toList := by
  unfold withN
  rw [List.range_succ, List.filterMap_append]
  cases h : withK l b s k <;> simp [h]
theorem withN_len (l : List Cpy) (b : Int) (s : ByteArray) (k : Nat) : (withN l b s k).length ≤ k := by
  unfold withN
  exact Nat.le_trans (List.length_filterMap_le _ _) (by simp)
end Wb

namespace Wb
open Go Go.RowKit
/-- Copies of the blocks 0 to 11, by number, as a function has them. -/
def viewN (f : Int → Option ByteArray) (n : Nat) : List Cpy := (List.range n).filterMap fun (k : Nat) => (f k).map fun t => (⟨k, t⟩ : Cpy)
def viewL (f : Int → Option ByteArray) : List Cpy := viewN f 12
/-- What a transaction makes of block b's copy. -/
def turnT (t : Txn) (o : Option ByteArray) (b : Int) : Option ByteArray := match getC t.mt b with | some s => some s | none => if inI t.rev b then none else o
def newestB (l : List Txn) (b : Int) : Option ByteArray := l.foldl (fun o t => turnT t o b) none
def newestL (l : List Txn) : List Cpy := viewL (newestB l)
theorem newestB_snoc (l : List Txn) (t : Txn) (b : Int) : newestB (l ++ [t]) b = turnT t (newestB l b) b := by simp [newestB]
theorem newestB_step {l : List Txn} {k : Nat} (hk : k < l.length) (b : Int) : newestB (l.take (k + 1)) b = turnT l[k] (newestB (l.take k) b) b := by
  rw [List.take_succ_eq_append_getElem hk, newestB_snoc]
theorem viewN_succ (f : Int → Option ByteArray) (n : Nat) : viewN f (n + 1) = viewN f n ++ ((f n).map fun t => (⟨n, t⟩ : Cpy)).toList := by
  unfold viewN
  rw [List.range_succ, List.filterMap_append]
  cases h : (f n).map fun t => (⟨n, t⟩ : Cpy) <;> simp [h]
theorem viewN_len (f : Int → Option ByteArray) (n : Nat) : (viewN f n).length ≤ n := by
  unfold viewN
  exact Nat.le_trans (List.length_filterMap_le _ _) (by simp)
theorem viewN_congr {f g : Int → Option ByteArray} {n : Nat} (h : ∀ k : Nat, k < n → f k = g k) : viewN f n = viewN g n := by
  induction n with
  | zero => rfl
  | succ n ih => rw [viewN_succ, viewN_succ, ih (fun k hk => h k (by omega)), h n (by omega)]
theorem viewL_congr {f g : Int → Option ByteArray} (h : ∀ k : Nat, k < 12 → f k = g k) : viewL f = viewL g := viewN_congr h
theorem viewN_mem {f : Int → Option ByteArray} {n : Nat} {c : Cpy} : c ∈ viewN f n ↔ ∃ k : Nat, k < n ∧ c.block = k ∧ f k = some c.text := by
  unfold viewN
  rw [List.mem_filterMap]
  constructor
  · rintro ⟨k, hk, hc⟩
    rw [Option.map_eq_some_iff] at hc
    obtain ⟨t, ht, rfl⟩ := hc
    exact ⟨k, List.mem_range.1 hk, rfl, ht⟩
  · rintro ⟨k, hk, hb, ht⟩
    refine ⟨k, List.mem_range.2 hk, ?_⟩
    rw [ht, Option.map_some]
    obtain ⟨b, t⟩ := c
    simp only at hb
    subst hb
    rfl
theorem getC_viewN {f : Int → Option ByteArray} {n : Nat} (b : Int) : getC (viewN f n) b = if 0 ≤ b ∧ b < n then f b else none := by
  induction n with
  | zero =>
    rw [if_neg (by omega)]
    rfl
  | succ n ih =>
    rw [viewN_succ]
    have happ : ∀ (l1 l2 : List Cpy), getC (l1 ++ l2) b = (getC l1 b).or (getC l2 b) := fun l1 l2 => by
      unfold getC
      rw [List.find?_append]
      cases List.find? (fun c => c.block == b) l1 <;> rfl
    rw [happ, ih]
    by_cases h1 : 0 ≤ b ∧ b < n
    · rw [if_pos h1, if_pos (by omega)]
      cases hf : f b with
      | some s => rfl
      | none =>
        cases hg : f n with
        | none => rfl
        | some s =>
          have : ((n : Int) == b) = false := beq_eq_false_iff_ne.2 (by omega)
          simp [getC, this]
    · rw [if_neg h1, Option.none_or]
      by_cases h2 : b = n
      · subst h2
        rw [if_pos (by omega)]
        cases hg : f n with
        | none => rfl
        | some s => simp [getC]
      · rw [if_neg (by omega)]
        cases hg : f n with
        | none => rfl
        | some s =>
          have : ((n : Int) == b) = false := beq_eq_false_iff_ne.2 (fun h => h2 h.symm)
          simp [getC, this]
theorem getC_viewL {f : Int → Option ByteArray} {b : Int} (h0 : 0 ≤ b) (h1 : b < 12) : getC (viewL f) b = f b := by
  unfold viewL
  rw [getC_viewN, if_pos ⟨h0, by simpa using h1⟩]
/-- 'rest' upon such a list. -/
theorem dropC_view (f : Int → Option ByteArray) (b : Int) : dropC (viewL f) b = viewL (fun x => if x = b then none else f x) := by
  unfold viewL
  generalize 12 = n
  induction n with
  | zero => rfl
  | succ n ih =>
    have happ : ∀ (l1 l2 : List Cpy), dropC (l1 ++ l2) b = dropC l1 b ++ dropC l2 b := fun l1 l2 => List.filter_append _ _
    rw [viewN_succ, viewN_succ, happ, ih]
    congr 1
    by_cases h : (n : Int) = b
    · rw [if_pos h]
      cases hf : f n with
      | none => rfl
      | some s => simp [dropC, h]
    · rw [if_neg h]
      cases hf : f n with
      | none => rfl
      | some s => simp [dropC, h]
/-- 'with' upon such a list. -/
theorem withL_view (f : Int → Option ByteArray) (b : Int) (s : ByteArray) : withL (viewL f) b s = viewL (fun x => if x = b then some s else f x) := by
  unfold withL
  have key : ∀ n : Nat, n ≤ 12 → withN (viewL f) b s n = viewN (fun x => if x = b then some s else f x) n := by
    intro n
    induction n with
    | zero => intro _; rfl
    | succ n ih =>
      intro hn
      rw [withN_step, viewN_succ, ih (by omega)]
      congr 1
      unfold withK
      by_cases h : (n : Int) = b
      · rw [if_pos h, if_pos h, Option.map_some, h]
      · rw [if_neg h, if_neg h, getC_viewL (by omega) (by omega)]
  exact key 12 (Nat.le_refl _)

/-! ### Lists that rise -/
theorem rise_get {l : List Int} (h : rise l = true) {k : Nat} (hk : k < l.length) : 0 ≤ l[k] ∧ l[k] < 12 ∧ ∀ i (hi : i < k), l[i] < l[k] := by
  have hr := (rise_iff l).1 h
  have hg : ∀ j (hj : j < l.length), l.getD j 0 = l[j] := fun j hj => by simp [hj]
  have hlt : ∀ d i, i + d < l.length → 0 < d → l.getD i 0 < l.getD (i + d) 0 := by
    intro d
    induction d with
    | zero => intro i _ h; omega
    | succ d ih =>
      intro i hi _
      have h1 := (hr (i + (d + 1)) hi).2.2 (by omega)
      rw [show i + (d + 1) - 1 = i + d by omega] at h1
      by_cases hd : 0 < d
      · have := ih i (by omega) hd
        omega
      · obtain rfl : d = 0 := by omega
        simpa using h1
  have h0 := hr k hk
  refine ⟨by rw [← hg k hk]; exact h0.1, by rw [← hg k hk]; exact h0.2.1, fun i hi => ?_⟩
  have := hlt (k - i) i (by omega) (by omega)
  rw [show i + (k - i) = k by omega, hg i (by omega), hg k hk] at this
  exact this
theorem copies_get {l : List Cpy} (h : copiesB l = true) {k : Nat} (hk : k < l.length) : isBlk l[k].block = true ∧ l[k].text.size = 32 ∧ (∀ i (hi : i < k), l[i].block < l[k].block) ∧ hasB (l.take k) l[k].block = false := by
  unfold copiesB at h
  rw [Bool.and_eq_true] at h
  have hk' : k < (blks l).length := by simpa [blks] using hk
  obtain ⟨g1, g2, g3⟩ := rise_get h.1 hk'
  have e : ∀ j (hj : j < l.length), (blks l)[j]'(by simpa [blks] using hj) = l[j].block := fun j hj => by simp [blks]
  rw [e k hk] at g1 g2
  have g4 : ∀ i (hi : i < k), l[i].block < l[k].block := fun i hi => by
    have := g3 i hi
    rw [e k hk, e i (by omega)] at this
    exact this
  refine ⟨decide_eq_true ⟨g1, g2⟩, of_decide_eq_true (List.all_eq_true.1 h.2 _ (List.getElem_mem hk)), g4, ?_⟩
  unfold hasB
  rw [List.any_eq_false]
  intro c hc
  obtain ⟨i, hi, rfl⟩ := List.mem_iff_getElem.1 hc
  rw [List.length_take] at hi
  rw [List.getElem_take]
  have := g4 i (by omega)
  simp only [beq_iff_eq]
  omega
theorem copies_len {l : List Cpy} (h : copiesB l = true) : l.length ≤ 12 := by
  by_cases hl : l.length ≤ 12
  · exact hl
  · exfalso
    have hk : ∀ k (hk : k < l.length), (k : Int) ≤ l[k].block := by
      intro k
      induction k with
      | zero => intro hk; have := of_decide_eq_true (copies_get h hk).1; exact this.1
      | succ k ih =>
        intro hk
        have h1 := ih (by omega)
        have h2 := (copies_get h hk).2.2.1 k (by omega)
        omega
    have h12 := of_decide_eq_true (copies_get h (k := 12) (by omega)).1
    have := hk 12 (by omega)
    omega
theorem rise_len {l : List Int} (h : rise l = true) : l.length ≤ 12 := by
  by_cases hl : l.length ≤ 12
  · exact hl
  · exfalso
    have hk : ∀ k (hk : k < l.length), (k : Int) ≤ l[k] := by
      intro k
      induction k with
      | zero => intro hk; exact (rise_get h hk).1
      | succ k ih =>
        intro hk
        have h1 := ih (by omega)
        have h2 := (rise_get h hk).2.2 k (by omega)
        omega
    have h12 := (rise_get h (k := 12) (by omega)).2.1
    have := hk 12 (by omega)
    omega

/-! ### One transaction's turn -/
def revF (g : Int → Option ByteArray) (r : List Int) : Int → Option ByteArray := fun x => if inI r x then none else g x
theorem revF_step (g : Int → Option ByteArray) {r : List Int} {k : Nat} (hk : k < r.length) : (fun x => if x = r[k] then none else revF g (r.take k) x) = revF g (r.take (k + 1)) := by
  funext x
  unfold revF
  rw [inI_step hk]
  by_cases h : x = r[k]
  · have hb : (r[k] == x) = true := beq_iff_eq.2 h.symm
    rw [if_pos h, hb, Bool.or_true, if_pos rfl]
  · have hb : (r[k] == x) = false := beq_eq_false_iff_ne.2 (fun hh => h hh.symm)
    rw [if_neg h, hb, Bool.or_false]
def metaF (g : Int → Option ByteArray) (m : List Cpy) : Int → Option ByteArray := m.foldl (fun f c x => if x = c.block then some c.text else f x) g
theorem metaF_step (g : Int → Option ByteArray) {m : List Cpy} {k : Nat} (hk : k < m.length) : (fun x => if x = m[k].block then some m[k].text else metaF g (m.take k) x) = metaF g (m.take (k + 1)) := by
  unfold metaF
  rw [List.take_succ_eq_append_getElem hk, List.foldl_append]
  rfl
theorem metaF_good {m : List Cpy} (h : copiesB m = true) (g : Int → Option ByteArray) (x : Int) : metaF g m x = match getC m x with | some s => some s | none => g x := by
  have key : ∀ k, k ≤ m.length → metaF g (m.take k) x = match getC (m.take k) x with | some s => some s | none => g x := by
    intro k
    induction k with
    | zero => intro _; rfl
    | succ k ih =>
      intro hk
      have hk' : k < m.length := by omega
      rw [← metaF_step g hk']
      have hd := (copies_get h hk').2.2.2
      have hget : getC (m.take (k + 1)) x = (getC (m.take k) x).or (if m[k].block = x then some m[k].text else none) := by
        unfold getC
        rw [List.take_succ_eq_append_getElem hk', List.find?_append]
        cases hf : (m.take k).find? (fun c => c.block == x) with
        | some c => rfl
        | none =>
          by_cases hb : m[k].block = x
          · simp [hb]
          · have : (m[k].block == x) = false := beq_eq_false_iff_ne.2 hb
            simp [hb, this]
      rw [hget]
      show (if x = m[k].block then some m[k].text else metaF g (m.take k) x) = _
      by_cases hb : x = m[k].block
      · have hn := getC_none hd
        rw [← hb] at hn
        rw [if_pos hb, hn, if_pos hb.symm]
        rfl
      · rw [if_neg hb, if_neg (fun hh => hb hh.symm), Option.or_none]
        exact ih (by omega)
  have := key m.length (Nat.le_refl _)
  rwa [List.take_length] at this
theorem turn_good {t : Txn} (h : copiesB t.mt = true) (g : Int → Option ByteArray) : metaF (revF g t.rev) t.mt = fun b => turnT t (g b) b := by
  funext b
  rw [metaF_good h]
  unfold turnT revF
  cases getC t.mt b <;> rfl
theorem good_meta {t : Txn} (h : goodT t = true) {k : Nat} (hk : k < t.mt.length) : inI t.rev t.mt[k].block = false ∧ hasB t.dt t.mt[k].block = false := by
  obtain ⟨_, _, _, _, ha, _⟩ := (goodT_iff t).1 h
  unfold apart at ha
  rw [Bool.and_eq_true, List.all_eq_true, List.all_eq_true] at ha
  constructor
  · unfold inI
    rw [List.any_eq_false]
    intro x hx hh
    rw [beq_iff_eq] at hh
    subst hh
    have := ha.1 _ hx
    rw [Bool.and_eq_true] at this
    have h2 := hasB_hit hk rfl
    rw [h2] at this
    cases this.1
  · have := ha.2 _ (List.getElem_mem hk)
    simpa using this
end Wb

namespace Wb
open Go Go.RowKit
def cmpI (x y : Int) : Int := if x < y then -1 else if y < x then 1 else 0
theorem cmpI_lt {x y : Int} (h : x < y) : cmpI x y = -1 := if_pos h
theorem cmpI_gt {x y : Int} (h : y < x) : cmpI x y = 1 := by unfold cmpI; rw [if_neg (by omega), if_pos h]
theorem cmpI_eq {x y : Int} (h : x = y) : cmpI x y = 0 := by unfold cmpI; rw [if_neg (by omega), if_neg (by omega)]
/-- How many blocks stand ahead of one. -/
def posB (l : List Cpy) (b : Int) : Nat := (l.filter (fun c => decide (c.block < b))).length
theorem pos_of {l : List Cpy} {b : Int} {i : Nat} (hi : i ≤ l.length) (h1 : ∀ k (hk : k < l.length), k < i → l[k].block < b) (h2 : ∀ k (hk : k < l.length), i ≤ k → b ≤ l[k].block) : posB l b = i := by
  unfold posB
  have e : l.filter (fun c => decide (c.block < b)) = l.take i := by
    conv => lhs; rw [← List.take_append_drop i l, List.filter_append]
    rw [List.filter_eq_self.2, List.filter_eq_nil_iff.2, List.append_nil]
    · intro c hc
      obtain ⟨k, hk, rfl⟩ := List.mem_iff_getElem.1 hc
      rw [List.getElem_drop]
      rw [List.length_drop] at hk
      have := h2 (i + k) (by omega) (by omega)
      simpa using this
    · intro c hc
      obtain ⟨k, hk, rfl⟩ := List.mem_iff_getElem.1 hc
      rw [List.getElem_take]
      rw [List.length_take] at hk
      exact decide_eq_true (h1 k (by omega) (by omega))
  rw [e, List.length_take]
  omega
theorem rises {l : List Cpy} (h : rise (blks l) = true) : ∀ k (hk : k < l.length) i (hi : i < k), l[i].block < l[k].block := by
  intro k hk i hi
  have hk' : k < (blks l).length := by simpa [blks] using hk
  have := (rise_get h hk').2.2 i hi
  simpa [blks] using this
theorem has_of {l : List Cpy} {b : Int} {i : Nat} (hs : ∀ k (hk : k < l.length) i (hi : i < k), l[i].block < l[k].block) (h1 : ∀ k (hk : k < l.length), k < i → l[k].block < b) (h2 : ∀ k (hk : k < l.length), i ≤ k → b ≤ l[k].block) :
    hasB l b = true ↔ ∃ h : i < l.length, l[i].block = b := by
  unfold hasB
  rw [List.any_eq_true]
  constructor
  · rintro ⟨c, hc, hb⟩
    obtain ⟨k, hk, rfl⟩ := List.mem_iff_getElem.1 hc
    have hb : l[k].block = b := beq_iff_eq.1 hb
    have hik : i ≤ k := by
      by_cases hki : k < i
      · have := h1 k hk hki; omega
      · omega
    refine ⟨by omega, ?_⟩
    by_cases e : i = k
    · subst e; exact hb
    · have := hs k hk i (by omega)
      have := h2 i (by omega) (Nat.le_refl _)
      omega
  · rintro ⟨h, hb⟩
    exact ⟨_, List.getElem_mem h, beq_iff_eq.2 hb⟩
end Wb
