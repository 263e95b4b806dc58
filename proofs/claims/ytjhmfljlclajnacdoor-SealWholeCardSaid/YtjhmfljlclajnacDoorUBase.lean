/- Part of the proof: Base. -/
import Derived.WalkKit
import Derived.WalkSpells
import Derived.WalkLawsBesides
import Derived.Deep.Slices
import Derived.Deep.AppendSrc
import Derived.BigQuiet
set_option linter.unusedVariables false
set_option linter.unusedSimpArgs false
namespace Wb
open Go Go.RowKit
theorem hid {p : Prop} (h : p) : Hid p := h
theorem ret_b {a b : Bool} (h : a = b) : Ending.returned (.bool a) = .returned (.bool b) := by rw [h]
theorem ret_i {k : IntKind} {a b : Int} (h : a = b) : Ending.returned (.int k a) = .returned (.int k b) := by rw [h]
theorem ret_s {a b : ByteArray} (h : a = b) : Ending.returned (.string a) = .returned (.string b) := by rw [h]
def Sl (w : World) (v : Value) (n : Nat) (cs : List Value) : Prop :=
 ∃ a cap, v = .slice a n cap ∧ n ≤ cap ∧ cap ≤ maxLen ∧
  (cs = [] ∨ ∃ b off, a = some ⟨b, off, none⟩ ∧ ∀ j u, cs[j]? = some u → w.cell? ⟨b, off + j, none⟩ = some u)
theorem allocB {B : Nat} {a w : World} (h : Below B a w) (hB : B ≤ a.heap.size) (o : Obj) : Below B a (w.alloc o) := h.alloc (Nat.le_trans hB h.size) o
theorem Zlo {A : Prop} (h : A := by repeat (first | exact Below.refl _ _ | with_reducible assumption | (refine allocB ?_ (by first | omega | (simp; done) | (simp; omega)) _) | (refine Below.setCell ?_ (by first | omega | (simp; done) | (simp; omega)) _) | refine Below.drew ?_ | (refine Below.trans ?_ (Below.mono (by with_reducible assumption) (by first | omega | (simp; done) | (simp; omega)))))) : A := h
theorem Zga {α : Type} {l : List α} {i : Nat} : l.toArray[i]? = l[i]? := List.getElem?_toArray
theorem Zgb {α : Type} {a : α} {l : List α} : (a :: l)[0]? = some a := rfl
theorem Zgc {α : Type} {a : α} {l : List α} {i : Nat} : (a :: l)[i + 1]? = l[i]? := rfl
theorem cell_below {w w' : World} (hb : Below w.heap.size w w') {p : Addr} {u : Value} (h : w.cell? p = some u) : w'.cell? p = some u :=
 (hb.cell (World.block_lt_of_cell? w p h)).trans h
theorem Sl.below {w w' : World} {v : Value} {n : Nat} {cs : List Value} (h : Sl w v n cs) (hb : Below w.heap.size w w') : Sl w' v n cs := by
 obtain ⟨a, cap, hv, h1, h2, h3⟩ := h
 refine ⟨a, cap, hv, h1, h2, h3.imp id ?_⟩
 rintro ⟨b, off, ha, hc⟩
 exact ⟨b, off, ha, fun j u hj => cell_below hb (hc j u hj)⟩
def RL {α : Type} (f : α → List Value) (w : World) (v : Value) (l : List α) : Prop := Sl w v l.length (l.flatMap f)
theorem RL.below {α : Type} {f : α → List Value} {w w' : World} {v : Value} {l : List α} (h : RL f w v l) (hb : Below w.heap.size w w') : RL f w' v l := Sl.below h hb
theorem flat_get {α : Type} {f : α → List Value} {c : Nat} (hf : ∀ x, (f x).length = c) : ∀ (l : List α) (k : Nat) (x : α), l[k]? = some x → ∀ i u, (f x)[i]? = some u → (l.flatMap f)[k * c + i]? = some u
 | [], k, x, h, i, u, _ => by simp at h
 | y :: l, 0, x, h, i, u, hu => by
  simp at h; subst h
  rw [List.flatMap_cons, Nat.zero_mul, Nat.zero_add, List.getElem?_append_left]
  ·exact hu
  ·exact (List.getElem?_eq_some_iff.1 hu).1
 | y :: l, k + 1, x, h, i, u, hu => by
  have := flat_get hf l k x (by simpa using h) i u hu
  rw [List.flatMap_cons, List.getElem?_append_right (by rw [hf, Nat.succ_mul]; omega), hf]
  rw [show (k + 1) * c + i - c = k * c + i by rw [Nat.succ_mul]; omega]
  exact this
theorem flat_len {α : Type} {f : α → List Value} {c : Nat} (hf : ∀ x, (f x).length = c) (l : List α) : (l.flatMap f).length = l.length * c := by
 induction l with
 | nil => simp
 | cons y l ih => rw [List.flatMap_cons, List.length_append, ih, hf, List.length_cons, Nat.succ_mul]; omega
theorem RL.at {α : Type} {f : α → List Value} {c : Nat} (hf : ∀ x, (f x).length = c) {w : World} {a : Option Addr} {n cap : Nat} {l : List α} (h : RL f w (.slice a n cap) l) {k : Nat} (hk : k < l.length) (h0 : 0 < c) :
    ∃ b off, a = some ⟨b, off, none⟩ ∧ ∀ i u, (f l[k])[i]? = some u → w.cell? ⟨b, off + k * c + i, none⟩ = some u := by
 obtain ⟨a', cap', hv, h1, h2, h3⟩ := h
 simp only [Value.slice.injEq] at hv
 obtain ⟨rfl, hn, rfl⟩ := hv
 have hl := flat_len hf l
 rcases h3 with h3 | ⟨b, off, ha, hc⟩
 ·exfalso
  rw [h3] at hl
  have h4 : 0 < l.length * c := Nat.mul_pos (by omega) h0
  rw [← hl] at h4
  simp at h4
 ·refine ⟨b, off, ha, fun i u hu => ?_⟩
  have := hc _ u (flat_get hf l k l[k] (by simp [hk]) i u hu)
  rw [← Nat.add_assoc] at this
  exact this
theorem RL.form {α : Type} {f : α → List Value} {w : World} {v : Value} {l : List α} (h : RL f w v l) : ∃ a cap, v = .slice a l.length cap ∧ l.length ≤ cap ∧ cap ≤ maxLen :=
 let ⟨a, cap, hv, h1, h2, _⟩ := h
 ⟨a, cap, hv, h1, h2⟩
theorem RL.at1 {α : Type} {f : α → List Value} {w : World} {a : Option Addr} {n cap : Nat} {l : List α} (g0 : α → Value) (hf : ∀ x, f x = [g0 x]) (h : RL f w (.slice a n cap) l) {k : Nat} (hk : k < l.length) :
    ∃ b off, a = some ⟨b, off, none⟩ ∧ w.cell? ⟨b, off + k, none⟩ = some (g0 l[k]) := by
 obtain ⟨b, off, ha, hc⟩ := RL.at (c := 1) (fun x => by rw [hf]; rfl) h hk (by decide)
 refine ⟨b, off, ha, ?_⟩
 have := hc 0 (g0 l[k]) (by rw [hf]; rfl)
 simpa using this
theorem RL.at2 {α : Type} {f : α → List Value} {w : World} {a : Option Addr} {n cap : Nat} {l : List α} (g0 g1 : α → Value) (hf : ∀ x, f x = [g0 x, g1 x]) (h : RL f w (.slice a n cap) l) {k : Nat} (hk : k < l.length) :
    ∃ b off, a = some ⟨b, off, none⟩ ∧ w.cell? ⟨b, off + k * 2, none⟩ = some (g0 l[k]) ∧ w.cell? ⟨b, off + k * 2 + 1, none⟩ = some (g1 l[k]) := by
 obtain ⟨b, off, ha, hc⟩ := RL.at (c := 2) (fun x => by rw [hf]; rfl) h hk (by decide)
 exact ⟨b, off, ha, hc 0 _ (by rw [hf]; rfl), hc 1 _ (by rw [hf]; rfl)⟩
theorem RL.at3 {α : Type} {f : α → List Value} {w : World} {a : Option Addr} {n cap : Nat} {l : List α} (g0 g1 g2 : α → Value) (hf : ∀ x, f x = [g0 x, g1 x, g2 x]) (h : RL f w (.slice a n cap) l) {k : Nat} (hk : k < l.length) :
    ∃ b off, a = some ⟨b, off, none⟩ ∧ w.cell? ⟨b, off + k * 3, none⟩ = some (g0 l[k]) ∧ w.cell? ⟨b, off + k * 3 + 1, none⟩ = some (g1 l[k]) ∧ w.cell? ⟨b, off + k * 3 + 2, none⟩ = some (g2 l[k]) := by
 obtain ⟨b, off, ha, hc⟩ := RL.at (c := 3) (fun x => by rw [hf]; rfl) h hk (by decide)
 exact ⟨b, off, ha, hc 0 _ (by rw [hf]; rfl), hc 1 _ (by rw [hf]; rfl), hc 2 _ (by rw [hf]; rfl)⟩
theorem Sl.of_owns {w : World} {base : Nat} {e : TypeId} {size : Nat} {v : Value} {n : Nat} {xs : List Value} (h : w.ownsRow base e size v n xs) : Sl w v n xs := by
 have hh := h
 obtain ⟨h1, h2⟩ := h
 rcases h2 with ⟨rfl, rfl⟩ | ⟨g, cap, cur, rfl, hb, hg, hn, hc, hs, ht⟩
 ·simp only [Nat.zero_mul, List.length_eq_zero_iff] at h1
  exact ⟨none, 0, rfl, Nat.le_refl _, by unfold maxLen; omega, .inl h1⟩
 ·refine ⟨some ⟨g, 0, none⟩, cap, rfl, hn, hc, .inr ⟨g, 0, rfl, fun j u hj => ?_⟩⟩
  have := hh.cells (g := g) rfl j u hj
  have hadd : (⟨g, 0, none⟩ : Addr).add j = ⟨g, 0 + j, none⟩ := by unfold Addr.add; split <;> simp_all
  rw [← hadd]; exact this
theorem Sl.nil (w : World) (n : Nat) (hn : n = 0) : Sl w (.slice none n 0) n [] := ⟨none, 0, rfl, by omega, by unfold maxLen; omega, .inl rfl⟩
theorem RL.nil {α : Type} (f : α → List Value) (w : World) : RL f w (.slice none 0 0) [] := Sl.nil w 0 rfl
structure Flat {α : Type} (f : α → List Value) (c : Nat) : Prop where
 len : ∀ x, (f x).length = c
 one : ∀ x, ∀ u ∈ f x, u.oneCell' = true
 pos : 0 < c
structure Elem (P : Program) (t e : TypeId) (c bytes : Nat) : Prop where
 under : P.underlying t = some (.slice e)
 info : ∃ i z, P.info? e = some i ∧ i.zero = some z ∧ i.size = c ∧ i.bytes = bytes ∧ z.cells.size = c
theorem Elem.mk' {P : Program} {t e : TypeId} {z : Value} {c bytes : Nat} (h : P.underlying t = some (.slice e)) (hi : (P.info? e).map (fun i => (i.zero, i.size, i.bytes)) = some (some z, c, bytes)) (hz : z.cells.size = c) : Elem P t e c bytes := by
 obtain ⟨i, h1, h2, h3, h4⟩ := info_parts hi
 exact ⟨h, i, z, h1, h2, h3, h4, hz⟩
def Own {α : Type} (f : α → List Value) (base : Nat) (e : TypeId) (c : Nat) (w : World) (v : Value) (l : List α) : Prop := w.ownsRow base e c v l.length (l.flatMap f)
theorem Own.nil {α : Type} (f : α → List Value) (base : Nat) (e : TypeId) (c : Nat) (w : World) : Own f base e c w (.slice none 0 0) [] := World.ownsRow_nil w base e c
theorem Own.reads {α : Type} {f : α → List Value} {base : Nat} {e : TypeId} {c : Nat} {w : World} {v : Value} {l : List α} (h : Own f base e c w v l) : RL f w v l := Sl.of_owns h
theorem Own.alloc {α : Type} {f : α → List Value} {base : Nat} {e : TypeId} {c : Nat} {w : World} {v : Value} {l : List α} (h : Own f base e c w v l) (o : Obj) : Own f base e c (w.alloc o) v l := World.ownsRow.alloc h o
theorem Own.mono {α : Type} {f : α → List Value} {base base' : Nat} {e : TypeId} {c : Nat} {w : World} {v : Value} {l : List α} (h : Own f base e c w v l) (hb : base' ≤ base) : Own f base' e c w v l := by
 obtain ⟨h1, h2⟩ := h
 exact ⟨h1, h2.imp id fun ⟨g, cap, cur, a, b, r⟩ => ⟨g, cap, cur, a, Nat.le_trans hb b, r⟩⟩
theorem Own.below {α : Type} {f : α → List Value} {base : Nat} {e : TypeId} {c : Nat} {w w' : World} {v : Value} {l : List α} (h : Own f base e c w v l) (hb : Below w.heap.size w w') : Own f base e c w' v l := by
 obtain ⟨h1, h2⟩ := h
 refine ⟨h1, h2.imp id fun ⟨g, cap, cur, a, b, hg, r⟩ => ⟨g, cap, cur, a, b, ?_, r⟩⟩
 rw [hb.block g (Array.getElem?_eq_some_iff.1 hg).1]; exact hg
theorem Own.grown {α : Type} {f : α → List Value} {base : Nat} {e : TypeId} {c : Nat} {w w' : World} {v : Value} {l : List α} {row : Option Nat} (h : Own f base e c w v l) (hg : w.grownBy w' row) (hne : v.ownBlock = none ∨ v.ownBlock ≠ row) : Own f base e c w' v l := World.ownsRow.kept h hg hne
theorem Own.setCell {α : Type} {f : α → List Value} {base : Nat} {e : TypeId} {c : Nat} {w : World} {v : Value} {l : List α} (h : Own f base e c w v l) {p : Addr} (hp : p.block < base) (u : Value) : Own f base e c (w.setCell p u) v l := ownsRow_setCell_below h hp u
theorem Own.form {α : Type} {f : α → List Value} {base : Nat} {e : TypeId} {c : Nat} {w : World} {v : Value} {l : List α} (h : Own f base e c w v l) : ∃ a cap, v = .slice a l.length cap := by
 obtain ⟨a, cap, hv, _, _⟩ := h.reads.form
 exact ⟨a, cap, hv⟩
theorem run_app_empty {P : Program} (w : World) (base : Nat) (t ty e : TypeId) (c bytes : Nat) (hT : Elem P t e c bytes) (v : Value) (n : Nat) (xs : List Value) (hown : w.ownsRow base e c v n xs) (ao : Option Addr) (cc : Nat) :
    (Builtin.append_ #[t, t] ty #[v, .slice ao 0 cc]).run P w = .ok v w := by
 obtain ⟨ht, i, z, hi, _⟩ := hT
 rcases hown.2 with ⟨rfl, rfl⟩ | ⟨g, cap, cur, rfl, hbg, hg, hnc, hcm, hcs, htake⟩
 ·cases ao <;> simp [Builtin.append_, run_underlying ht, Go.sizeOf, typeInfo, hi, Builtin.lenOf, Builtin.firstCells, loadCells, loadCellsFrom]
 ·cases ao <;> simp [Builtin.append_, run_underlying ht, Go.sizeOf, typeInfo, hi, Builtin.lenOf, Builtin.firstCells, loadCells, loadCellsFrom, hnc, storeCells]
theorem run_app {α : Type} {f : α → List Value} {P : Program} (w : World) (base : Nat) (t ty e : TypeId) (c bytes : Nat) (hF : Flat f c) (hT : Elem P t e c bytes) (v : Value) (l : List α) (hown : Own f base e c w v l)
    (vx : Value) (l2 : List α) (hs : RL f w vx l2) (hroom : (l.length + l2.length) * bytes ≤ 140737488355328) (h63 : l.length + l2.length ≤ maxLen) (hbase : base ≤ w.heap.size) :
    ∃ v' w', (Builtin.append_ #[t, t] ty #[v, vx]).run P w = .ok v' w' ∧ Own f base e c w' v' (l ++ l2) ∧ w.grownBy w' v.ownBlock := by
 obtain ⟨a, cap, rfl, h1, h2, h3⟩ := hs
 cases l2 with
 | nil =>
  exact ⟨v, w, run_app_empty w base t ty e c bytes hT v _ _ hown a cap, by simpa using hown, World.grownBy.refl _ _⟩
 | cons y l2 =>
  rcases h3 with h3 | ⟨b, off, rfl, hc⟩
  ·exfalso
   have hl := flat_len hF.len (y :: l2)
   have h4 : 0 < (y :: l2).length * c := Nat.mul_pos (by simp) hF.pos
   rw [h3] at hl; rw [← hl] at h4
   simp at h4
  ·obtain ⟨ht, i, z, hi, hz, hsz, hby, hzs⟩ := hT
   obtain ⟨v', w', hr, r1, r2, _⟩ := run_append_own (P := P) w base t ty e i z c bytes ht hi hz hsz hby hzs hF.pos v _ _ hown ⟨b, off, none⟩ (y :: l2).length cap ((y :: l2).flatMap f) (flat_len hF.len _)
    (fun j u hj => by rw [Addr.add_lit]; exact hc j u hj) (fun u hu => by obtain ⟨x, _, hx⟩ := List.mem_flatMap.1 hu; exact hF.one x u hx) h63 hroom hbase
   refine ⟨v', w', hr, ?_, r2⟩
   unfold Own
   rw [List.length_append, List.flatMap_append]
   exact r1
theorem wpList_app {α : Type} {f : α → List Value} {P : Program} {w : World} {ops : Array Oper} {rest : List Oper} {o : Oper} {a : Act} {Q : Exit → Act → World → Prop} (hgd : o.guard = none) (s x : Operand) (t : TypeId)
    (ho : o.op = .call { callee := .builtin .append, args := #[s, x], argTypes := #[t, t] })
    (base : Nat) (e : TypeId) (c bytes : Nat) (hF : Flat f c) (hT : Elem P t e c bytes) {v : Value} {l : List α} (hown : Own f base e c w v l) (hs : a.eval s = v)
    {vx : Value} (l2 : List α) (hsrc : RL f w vx l2) (hx : a.eval x = vx) (hroom : (l.length + l2.length) * bytes ≤ 140737488355328) (h63 : l.length + l2.length ≤ maxLen) (hbase : base ≤ w.heap.size)
    (h : ∀ v' w', Own f base e c w' v' (l ++ l2) → w.grownBy w' v.ownBlock → wpList P ops Q rest (a.put o.dst v') w') : wpList P ops Q (o :: rest) a w := by
 refine wpList_plain hgd fun K hK => ?_
 obtain ⟨v', w', hr, r1, r2⟩ := run_app (P := P) w base t o.type e c bytes hF hT v l hown vx l2 hsrc hroom h63 hbase
 unfold Oper.wp execOp
 simp only [ho, resolve, invoke, builtin, Sem.run_bind, Sem.run_pure, Result.andThen_ok, List.map_toArray, List.map_cons, List.map_nil, hs, hx, hr]
 exact hK _ _ (h v' w' r1 r2)
theorem RL.new1 {α : Type} {f : α → List Value} (w : World) (e : TypeId) (fr : Nat × Nat) (y : α) : RL f (w.alloc (.cells (f y).toArray e fr)) (.slice (some ⟨w.heap.size, 0, none⟩) 1 1) [y] := by
 refine ⟨_, _, rfl, Nat.le_refl _, by unfold maxLen; omega, .inr ⟨_, _, rfl, fun j u hj => ?_⟩⟩
 rw [cell_of_row _ _ _ (f y).toArray e fr (heap_alloc_new w _)]
 simpa using hj
theorem wpList_push {α : Type} {f : α → List Value} {P : Program} {w : World} {ops : Array Oper} {rest : List Oper} {o : Oper} {a : Act} {Q : Exit → Act → World → Prop} {cs : Array Value} {fr : Nat × Nat} {g : Nat} (hgd : o.guard = none) (s x : Operand) (t : TypeId)
    (ho : o.op = .call { callee := .builtin .append, args := #[s, x], argTypes := #[t, t] })
    (base : Nat) (e : TypeId) (c bytes : Nat) (hF : Flat f c) (hT : Elem P t e c bytes) {v : Value} {l : List α} (hown : Own f base e c w v l) (hs : a.eval s = v)
    (y : α) (hcs : (f y).toArray = cs) (hx : a.eval x = .slice (some ⟨g, 0, none⟩) 1 1) (hroom : (l.length + 1) * bytes ≤ 140737488355328) (h63 : l.length + 1 ≤ maxLen) (hbase : base ≤ w.heap.size)
    (h : ∀ v' w', Own f base e c w' v' (l ++ [y]) → Below base w w' → w.grownBy w' v.ownBlock → wpList P ops Q rest (a.put o.dst v') w') (hg : g = w.heap.size := by first | rfl | (simp; done)) : wpList P ops Q (o :: rest) a (w.alloc (.cells cs e fr)) := by
 subst hcs
 subst hg
 refine wpList_app hgd s x t ho base e c bytes hF hT (hown.alloc _) hs [y] (RL.new1 w e fr y) hx hroom h63 (by simp; omega) fun v' w' h1 h2 => ?_
 have hlt := World.ownsRow.lt hown
 exact h v' w' h1 (((Below.refl base w).alloc hbase _).grown h2 (by simp; omega) fun k hk => (hlt k hk).1)
  ⟨h2.os, h2.tape, h2.output, by have := h2.size; simp at this; omega, fun k hk hne => by rw [h2.block k (by simp; omega) hne, Below.heap_alloc w _ k hk]⟩
def intC (x : Int) : List Value := [.int .i64 x]
def strC (x : ByteArray) : List Value := [.string x]
theorem intC_flat : Flat intC 1 := ⟨fun _ => rfl, fun _ u hu => by simp [intC] at hu; subst hu; rfl, by decide⟩
theorem strC_flat : Flat strC 1 := ⟨fun _ => rfl, fun _ u hu => by simp [strC] at hu; subst hu; rfl, by decide⟩
theorem bcell {W w1 : World} (hb : Below W.heap.size W w1) : (∀ b o, b < W.heap.size → w1.cell? ⟨b, o, none⟩ = W.cell? ⟨b, o, none⟩) ∧ (∀ b o, b < W.heap.size → w1.frozen? ⟨b, o, none⟩ = W.frozen? ⟨b, o, none⟩) :=
 ⟨fun b o h => hb.cell (p := ⟨b, o, none⟩) h, fun b o h => hb.frozen (p := ⟨b, o, none⟩) h⟩
def Blk (w : World) (b : Nat) (cs : Array Value) (t : TypeId) : Prop := w.heap[b]? = some (.cells cs t (0, 0))
section
variable {w w' : World} {b : Nat} {cs : Array Value} {t : TypeId}
theorem Blk.cell (h : Blk w b cs t) (i : Nat) : w.cell? ⟨b, i, none⟩ = cs[i]? := by unfold Blk at h; simp [World.cell?, h]
theorem Blk.free (h : Blk w b cs t) (i : Nat) : w.frozen? ⟨b, i, none⟩ = false := by unfold Blk at h; simp [World.frozen?, h]
theorem Blk.lt (h : Blk w b cs t) : b < w.heap.size := (Array.getElem?_eq_some_iff.1 h).1
theorem Blk.two {x y : Value} (h : Blk w b #[x, y] t) : w.cell? ⟨b, 0, none⟩ = some x ∧ w.cell? ⟨b, 1, none⟩ = some y ∧ w.frozen? ⟨b, 0, none⟩ = false ∧ w.frozen? ⟨b, 1, none⟩ = false := ⟨h.cell 0, h.cell 1, h.free 0, h.free 1⟩
theorem Blk.one {x : Value} (h : Blk w b #[x] t) : w.cell? ⟨b, 0, none⟩ = some x ∧ w.frozen? ⟨b, 0, none⟩ = false := ⟨h.cell 0, h.free 0⟩
theorem Blk.drewN (h : Blk w b cs t) (n : Nat) : Blk (w.drewN n) b cs t := h
theorem belowDrewN {B n : Nat} {a : World} (h : Below B a w) : Below B a (w.drewN n) := ⟨h.os, h.tape, h.output, h.size, h.block⟩
theorem Blk.below {B : Nat} (h : Blk w b cs t) (hb : Below B w w') (hlt : b < B) : Blk w' b cs t := (hb.block b hlt).trans h
theorem Blk.step (h : Blk w b cs t) (hb : Below w.heap.size w w') : Blk w' b cs t := h.below hb h.lt
theorem Blk.new (w : World) (cs : Array Value) (t : TypeId) : Blk (w.alloc (.cells cs t)) w.heap.size cs t := heap_alloc_new w _
theorem Blk.newAt {n : Nat} (hn : n = w.heap.size) : Blk (w.alloc (.cells cs t)) n cs t := by rw [hn]; exact Blk.new w cs t
theorem Blk.alloc (h : Blk w b cs t) (o : Obj) : Blk (w.alloc o) b cs t := (heap_alloc_old w o h.lt).trans h
theorem Blk.drew (h : Blk w b cs t) : Blk w.drew b cs t := h
theorem Blk.set (h : Blk w b cs t) (i : Nat) (v : Value) : Blk (w.setCell ⟨b, i, none⟩ v) b (cs.setIfInBounds i v) t := by
 have hl := h.lt
 unfold Blk at *
 obtain ⟨h1, h2⟩ := Array.getElem?_eq_some_iff.1 h
 simp only [World.setCell]
 rw [Array.getElem?_eq_getElem (by simpa using hl), Array.getElem_modify]
 simp [h2]
theorem Blk.set_other (h : Blk w b cs t) (p : Addr) (v : Value) (hne : b ≠ p.block) : Blk (w.setCell p v) b cs t := (Below.heap_setCell w p v b hne).trans h
theorem Blk.grown {row : Option Nat} (h : Blk w b cs t) (hg : w.grownBy w' row) (hne : some b ≠ row) : Blk w' b cs t := (hg.block b h.lt hne).trans h
end
structure BW (W : World) where
 val : World
 below : Below W.heap.size W val
instance BW.nonempty {W : World} : Nonempty (BW W) := ⟨⟨W, Below.refl _ _⟩⟩
@[go_sem] theorem BW.cell {W : World} (x : BW W) (b o : Nat) (h : b < W.heap.size) : x.val.cell? ⟨b, o, none⟩ = W.cell? ⟨b, o, none⟩ := x.below.cell (p := ⟨b, o, none⟩) h
theorem wp_region_below {P : Program} {id : Nat} {Q : Exit → Act → World → Prop} {a : Act} {w : World} {l : List Oper} (hm : P.follows .mixedOrders = true) (hB : Region.lexB .any l.toArray = true)
    (h : wpQuiet P l.toArray (fun w' => ∃ x : BW w, w' = x.val) (fun a' => ∀ w', (∃ x : BW w, w' = x.val) → Q .normal a' w') l a) : (Code.region id l.toArray true).wp P Q a w :=
 wp_region_quiet (C := fun w' => ∃ x : BW w, w' = x.val) hm hB ⟨⟨_, (Below.refl _ w).drew⟩, rfl⟩ (by simpa using h)
theorem BW.call {P : Program} {f : FuncId} {args : Array Value} {W : World} {x : BW W} {v : Value}
    (h : Calls P f args x.val fun e w' => e = .returned v ∧ Below x.val.heap.size x.val w') : Calls P f args x.val fun e w'' => e = .returned v ∧ ∃ y : BW W, w'' = y.val :=
 h.mono fun _ w' ⟨he, hb⟩ => ⟨he, ⟨w', x.below.trans (hb.mono x.below.size)⟩, rfl⟩
theorem BW.call_same {P : Program} {f : FuncId} {args : Array Value} {W : World} {x : BW W} {v : Value}
    (h : Calls P f args x.val fun e w' => e = .returned v ∧ x.val = w') : Calls P f args x.val fun e w'' => e = .returned v ∧ ∃ y : BW W, w'' = y.val :=
 h.mono fun _ _ ⟨he, hb⟩ => ⟨he, x, hb.symm⟩
end Wb
