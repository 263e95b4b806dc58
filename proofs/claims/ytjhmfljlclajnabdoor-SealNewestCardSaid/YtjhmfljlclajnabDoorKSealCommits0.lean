/- From a walk that returns true and leaves what was there to the statement's own form. Slices of the arguments, as lists. No program in sight. What arguments read as: from the form's own reading to the plain data. Marks as arguments. Bytes and strings. No program in sight. Disks. No program in sight. Transactions as plain data. No program in sight. Transactions as arguments. The copies without a block's, and with one. No program in sight. The newest copies, as plain lists. No program in sight. Places of blocks in lists that rise. No program in sight. Altering a transaction, plainly: lists that rise, a copy put among others, a block put among numbers. No program in sight. -/
import Derived.Test.YtjhmfljlclajnabDoorRows
import Derived.Test.YtjhmfljlclajnabDoorBase
import Derived.ProofKit
import Derived.OpenShut
import Derived.Deep.DeepHandedRow
import Derived.LaidLaws
import Derived.Lib.SmallJoins
import Derived.SizedLaws
import Derived.Test.YtjhmfljlclajnabDoorPure
namespace Go.Proofs.YtjhmfljlclajnabDoor
open Go.ChangeShapes Go.WideShapes Go.ChangeAt Go.RowKit Wb

theorem own : ownKnob Tryd.prog.godebug = none := by kernel_rfl
theorem laidOut : laidOutB Tryd.prog = true := by kernel_rfl

/-- What reads as data before reads so behind the call, where only new blocks are written. -/
theorem trodAll_stays {H : Type} {enc : TypeId × Value → H} {W W' : World} {sp : Nat → Bool} (hb : Below W.heap.size W W') : ∀ (ts : List TypeId) (vs : List Value) (ds : List (DataW H)) (ps : List MemPlace),
    (∀ t ∈ ts, Tryd.prog.readableRec t = true ∧ t < Tryd.prog.types.size) → DataW.TrodAll enc Tryd.prog W 0 (fun _ => true) true ts vs ds ps →
    (∀ x ∈ ps, x.block < W.heap.size) → (∀ x ∈ ps, sp x.block = true) → DataW.TrodAll enc Tryd.prog W' 0 sp true ts vs ds ps
  | [], [], [], _, _, h, _, _ => h
  | t :: ts, v :: vs, d :: ds, ps, hr, h, hlt, hs => by
    obtain ⟨p, q, h1, h2, rfl⟩ := h
    refine ⟨p, q, ?_, ?_, rfl⟩
    · exact WideElems.Trod_stays laidOut (hr t (by simp)).1 (hr t (by simp)).2 h1 (fun x hx => hb.same (hlt x (by simp [hx]))) (fun x hx => hs x (by simp [hx]))
    · exact trodAll_stays hb ts vs ds q (fun t' ht => hr t' (by simp [ht])) h2 (fun x hx => hlt x (by simp [hx])) (fun x hx => hs x (by simp [hx]))
  | [], [], _ :: _, _, _, h, _, _ => h.elim
  | [], _ :: _, _, _, _, h, _, _ => h.elim
  | _ :: _, [], _, _, _, h, _, _ => h.elim
  | _ :: _, _ :: _, [], _, _, h, _, _ => h.elim

/-- What the statement asks behind a call that returned true. -/
theorem post_true {H : Type} {enc : TypeId × Value → H} {f : Func} {s : ChangeSpec} {apart fresh handsOn : Bool} {W W' : World} {args : Array Value} {ds gs : List (DataW H)} {before : List MemPlace}
    (hres : f.resultTypes = #[4]) (hvars : s.vars = []) (hspec : s.fn H (ds ++ gs) = { results := [.lit (.bool true)], args := ds })
    (hread : ∀ t ∈ f.params.toList, Tryd.prog.readableRec t = true ∧ t < Tryd.prog.types.size)
    (hW : DataW.Whole enc Tryd.prog f.params.toList s.vars apart W args.toList ds gs before) (hb : Below W.heap.size W W') :
    s.post enc Tryd.prog f apart fresh handsOn false W args (.bool true) W' := by
  have hlt := hW.lt
  have hW' := hW
  obtain ⟨p, q, hA, hV, rfl, hfz, hnd⟩ := hW
  rw [hvars] at hV
  obtain ⟨rfl, rfl⟩ := trodVars_none hV
  refine ⟨ds, [], _, [], p, [], hW', ?_, ?_, ?_, hb.frame _, fun h => by cases h⟩
  · rw [hspec, hres]
    exact trodAll_mk1 (shut_bool Tryd.underlying4 true)
  · rw [hspec]
    exact trodAll_stays hb _ _ _ _ hread hA (fun x hx => hlt x (by simp [hx])) (fun x hx => by simpa using hlt x (by simp [hx]))
  · rw [hspec, hvars]
    rfl

/-- The world of the witness: the settled one. -/
noncomputable def plainWorld (os : Os) : World := World.holding Tryd.prog os ⟨#[], #[], []⟩
end Go.Proofs.YtjhmfljlclajnabDoor

namespace Wb
open Go Go.ChangeShapes Go.WideShapes Go.ChangeAt Go.RowKit Go.Joins Go.Deep
theorem flat_at {α : Type} {f : α → List Value} {c : Nat} (hf : ∀ x, (f x).length = c) : ∀ (l : List α) (j : Nat) (u : Value), (l.flatMap f)[j]? = some u → ∃ i x r, l[i]? = some x ∧ j = i * c + r ∧ (f x)[r]? = some u ∧ r < c
  | [], j, u, h => by simp at h
  | y :: l, j, u, h => by
    rw [List.flatMap_cons] at h
    by_cases hj : j < c
    · rw [List.getElem?_append_left (by rw [hf]; exact hj)] at h
      exact ⟨0, y, j, rfl, by omega, h, hj⟩
    · rw [List.getElem?_append_right (by rw [hf]; omega), hf] at h
      obtain ⟨i, x, r, h1, h2, h3, h4⟩ := flat_at hf l _ u h
      exact ⟨i + 1, x, r, by simpa using h1, by rw [Nat.succ_mul]; omega, h3, h4⟩
section
variable {H : Type} {enc : TypeId × Value → H} {P : Program} {w : World} {base : Nat} {spare : Nat → Bool} {held : Bool}
theorem read_RL {α : Type} [Inhabited α] {f : α → List Value} {c : Nat} (hf : ∀ x, (f x).length = c) (h0 : 0 < c) {t e : TypeId} {fuel : Nat} {cs : List Value} {x : DataW H × List MemPlace} (ht : P.underlying t = some (.slice e)) (hc : P.cellsOf e = c)
    (hread : ∀ n cs' y, DataW.trod enc P w base spare held n e cs' = some y → cs'.length = c → ∃ x : α, cs' = f x) (h : DataW.trod enc P w base spare held fuel t cs = some x) :
    ∃ (v : Value) (l : List α), cs = [v] ∧ RL f w v l ∧ ((x.1 = .nil ∧ l = []) ∨ ∃ el sp, x.1 = .slice el sp ∧ el.length = l.length) := by
  rcases open_slice ht h with ⟨rfl, rfl⟩ | ⟨a, len, cap, m, n, D, Pl, rfl, hb, hl, hm, hmm, rfl, hx⟩
  · exact ⟨_, [], rfl, RL.nil f w, .inl ⟨rfl, rfl⟩⟩
  have hlm : len ≤ m := by rw [hmm]; split <;> omega
  have each : ∀ i, i < len → ∃ x : α, ∀ r, r < c → w.cell? (a.add (i * c + r)) = (f x)[r]? := by
    intro i hi
    obtain ⟨cs', h1, h2⟩ := hx i (by omega)
    rw [hc] at h1
    obtain ⟨_, hlen, hcell⟩ := World.cells?_some h1
    obtain ⟨x, rfl⟩ := hread _ _ _ h2 hlen
    exact ⟨x, fun r hr => by have := hcell r hr; rwa [add_add] at this⟩
  obtain ⟨X, hX⟩ := choose_lt each
  refine ⟨_, (List.range len).map X, rfl, ?_, .inr ⟨_, _, rfl, by simp⟩⟩
  refine ⟨some a, cap, by simp, by simpa using hl, hm, ?_⟩
  by_cases hlen : len = 0
  · subst hlen; left; rfl
  right
  have hspot : a.spot = none := by
    have h1 := hX 0 (by omega) 0 h0
    have h2 : (f (X 0))[0]? ≠ none := by rw [Ne, List.getElem?_eq_none_iff, hf]; omega
    obtain ⟨u, hu⟩ := Option.ne_none_iff_exists'.1 h2
    rw [hu] at h1
    simpa [Addr.add] using World.cell?_spot h1
  obtain ⟨b, off, spot⟩ := a
  obtain rfl : spot = none := hspot
  refine ⟨b, off, rfl, fun j u hj => ?_⟩
  obtain ⟨i, x, r, h1, rfl, h3, h4⟩ := flat_at hf _ _ _ hj
  rw [List.getElem?_map, Option.map_eq_some_iff] at h1
  obtain ⟨k, hk, rfl⟩ := h1
  obtain ⟨hkl, rfl⟩ := List.getElem?_eq_some_iff.1 hk
  simp only [List.length_range] at hkl
  simp only [List.getElem_range] at h3
  have := hX i hkl r h4
  rw [h3, Addr.add_lit] at this
  exact this
end
end Wb

namespace Go.Proofs.YtjhmfljlclajnabDoor
open Go.ChangeShapes Go.WideShapes Go.ChangeAt Go.RowKit Go.Joins Wb
set_option maxRecDepth 100000
section
variable {H : Type} {enc : TypeId × Value → H} {W : World} {base : Nat}
theorem read_ring {v : Value} {d : DataW H} {p : List MemPlace} (hv : Value.okWide Tryd.prog W .any base 23 v)
    (h : DataW.Trod enc Tryd.prog W 0 (fun _ => true) true 23 v d p) : ∃ r : Ring, v = r.val := by
  obtain ⟨c0, c1, y0, y1, m, rfl, rfl, rfl, hy0, hy1⟩ := open_agg2 Tryd.underlying23 (by kernel_rfl) (by kernel_rfl) hv h
  obtain ⟨a, e0, _⟩ := DataW.trod_int Tryd.underlying3 hy0
  obtain ⟨b, e1, _⟩ := DataW.trod_int Tryd.underlying3 hy1
  simp at e0 e1
  subst e0 e1
  exact ⟨⟨a, b⟩, rfl⟩
end
end Go.Proofs.YtjhmfljlclajnabDoor

namespace Go.Proofs.YtjhmfljlclajnabDoor
open Go.ChangeShapes Go.WideShapes Go.ChangeAt Go.RowKit Go.Joins Wb
set_option maxRecDepth 100000
instance : Inhabited Tag := ⟨⟨0, false⟩⟩
section
variable {H : Type} {enc : TypeId × Value → H} {W : World} {base : Nat}
theorem read_ints {fuel : Nat} {cs : List Value} {x : DataW H × List MemPlace} (h : DataW.trod enc Tryd.prog W 0 (fun _ => true) true fuel 25 cs = some x) :
    ∃ (v : Value) (l : List Int), cs = [v] ∧ RL intC W v l ∧ ((x.1 = .nil ∧ l = []) ∨ ∃ el sp, x.1 = .slice el sp ∧ el.length = l.length) :=
  read_RL (c := 1) (fun _ => rfl) (by decide) Tryd.underlying25 (by kernel_rfl) (fun n cs' y hy _ => by
    obtain ⟨a, rfl, _⟩ := DataW.trod_int Tryd.underlying3 hy
    exact ⟨a, rfl⟩) h
theorem read_tags {fuel : Nat} {cs : List Value} {x : DataW H × List MemPlace} (h : DataW.trod enc Tryd.prog W 0 (fun _ => true) true fuel 79 cs = some x) :
    ∃ (v : Value) (l : List Tag), cs = [v] ∧ RL tagC W v l ∧ ((x.1 = .nil ∧ l = []) ∨ ∃ el sp, x.1 = .slice el sp ∧ el.length = l.length) :=
  read_RL (c := 2) (fun _ => rfl) (by decide) Tryd.underlying79 (by kernel_rfl) (fun n cs' y hy hlen => by
    obtain ⟨y0, y1, n, _, _, h0, h1⟩ := trod_struct2 Tryd.underlying92 hy
    match cs', hlen with
    | [u0, u1], _ =>
      have h0 : DataW.trod enc Tryd.prog W 0 (fun _ => true) true n 3 [u0] = some y0 := h0
      have h1 : DataW.trod enc Tryd.prog W 0 (fun _ => true) true n 4 [u1] = some y1 := h1
      obtain ⟨a, e0, _⟩ := DataW.trod_int Tryd.underlying3 h0
      obtain ⟨b, e1, _⟩ := DataW.trod_bool Tryd.underlying4 h1
      simp at e0 e1
      subst e0 e1
      exact ⟨⟨a, b⟩, rfl⟩) h
theorem read_mark {v : Value} {d : DataW H} {p : List MemPlace} (hv : Value.okWide Tryd.prog W .any base 81 v)
    (h : DataW.Trod enc Tryd.prog W 0 (fun _ => true) true 81 v d p) (hw : (d.weights Tryd.prog 81).all (· ≤ reachBytes) = true) : ∃ m : Mrk, RMark W v m := by
  obtain ⟨cs, rfl, hsz⟩ := okWide_struct Tryd.underlying81 hv
  obtain ⟨fuel, hf⟩ := h
  obtain ⟨xs, n, _, hx, hl, hlen, hg⟩ := DataW.trod_struct Tryd.underlying81 hf
  have hsz' : cs.size = 5 := hsz.trans (by kernel_rfl)
  obtain ⟨ls⟩ := cs
  match ls, hsz', xs, hlen with
  | [u0, u1, u2, u3, u4], _, [y0, y1, y2, y3, y4], _ =>
    have h0 : DataW.trod enc Tryd.prog W 0 (fun _ => true) true n 3 [u0] = some y0 := hg 0 _ rfl
    have h1 : DataW.trod enc Tryd.prog W 0 (fun _ => true) true n 3 [u1] = some y1 := hg 1 _ rfl
    have h2 : DataW.trod enc Tryd.prog W 0 (fun _ => true) true n 3 [u2] = some y2 := hg 2 _ rfl
    have h3 : DataW.trod enc Tryd.prog W 0 (fun _ => true) true n 79 [u3] = some y3 := hg 3 _ rfl
    have h4 : DataW.trod enc Tryd.prog W 0 (fun _ => true) true n 25 [u4] = some y4 := hg 4 _ rfl
    obtain ⟨a, e0, _⟩ := DataW.trod_int Tryd.underlying3 h0
    obtain ⟨b, e1, _⟩ := DataW.trod_int Tryd.underlying3 h1
    obtain ⟨c, e2, _⟩ := DataW.trod_int Tryd.underlying3 h2
    obtain ⟨v3, tags, e3, r3, d3⟩ := read_tags h3
    obtain ⟨v4, blks, e4, r4, d4⟩ := read_ints h4
    simp only [List.cons.injEq, and_true] at e0 e1 e2 e3 e4
    subst e0 e1 e2 e3 e4
    simp only [Prod.mk.injEq] at hx
    obtain ⟨rfl, _⟩ := hx
    have hw2 : (DataW.weightsEach Tryd.prog [3, 3, 3, 79, 25] [y0.1, y1.1, y2.1, y3.1, y4.1]).all (· ≤ reachBytes) = true := by
      simpa [DataW.weights, Tryd.underlying81] using hw
    have b3 : Tryd.prog.bytesOf 92 = 16 := by kernel_rfl
    have b4 : Tryd.prog.bytesOf 3 = 8 := by kernel_rfl
    refine ⟨⟨a, b, c, tags, blks⟩, _, _, rfl, r3, r4, ?_, ?_⟩
    · rcases d3 with ⟨_, rfl⟩ | ⟨el, sp, hy, hel⟩
      · simp
      · have := sized_slice hw2 (j := 3) rfl (by simp [hy]; exact ⟨rfl, rfl⟩) Tryd.underlying79
        rw [b3] at this
        unfold reachBytes at this
        dsimp only
        omega
    · rcases d4 with ⟨_, rfl⟩ | ⟨el, sp, hy, hel⟩
      · simp
      · have := sized_slice hw2 (j := 4) rfl (by simp [hy]; exact ⟨rfl, rfl⟩) Tryd.underlying25
        rw [b4] at this
        unfold reachBytes at this
        dsimp only
        omega
end
end Go.Proofs.YtjhmfljlclajnabDoor

namespace Wb
open Go Go.RowKit
set_option linter.unusedSimpArgs false

theorem ret_st {x : Value} {a b : ByteArray} (h : a = b) : Ending.returned (.tuple #[.string a, x]) = .returned (.tuple #[.string b, x]) := by rw [h]
/-! ### Bytes -/
def byteC (b : UInt8) : List Value := [.int .u8 b.toNat]
theorem byteC_flat : Flat byteC 1 := ⟨fun _ => rfl, fun _ u hu => by simp [byteC] at hu; subst hu; rfl, by decide⟩
def str (bs : List UInt8) : ByteArray := ⟨bs.toArray⟩
theorem str_size (bs : List UInt8) : (str bs).size = bs.length := by simp [str, ByteArray.size]
theorem str_toList (s : ByteArray) : str s.data.toList = s := by cases s; simp [str]
theorem foldl_push (ns : List UInt8) : ∀ (s : ByteArray), ((ns.map fun b => ((b.toNat : Nat) : Int)).foldl (fun r n => r.push (UInt8.ofNat n.toNat)) s) = ⟨s.data ++ ns.toArray⟩ := by
  induction ns with
  | nil => intro s; simp
  | cons b ns ih =>
    intro s
    simp only [List.map_cons, List.foldl_cons]
    rw [ih]
    simp [ByteArray.push]
theorem flat_bytes (bs : List UInt8) : bs.flatMap byteC = (bs.map fun b => ((b.toNat : Nat) : Int)).map (Value.int .u8) := by
  induction bs with
  | nil => rfl
  | cons x bs ih => rw [List.flatMap_cons, ih]; rfl
theorem run_toString {P : Program} {w : World} {src dst e : TypeId} {v : Value} (bs : List UInt8) (hs : P.underlying src = some (.slice e)) (he : P.underlying e = some (.int .u8)) (hd : P.underlying dst = some .string)
    (hr : RL byteC w v bs) : (convert src dst v).run P w = .ok (.string (str bs)) w := by
  obtain ⟨a, cap, rfl, h1, h2, h3⟩ := hr
  rw [run_convert_bytes_string w src dst e a _ cap hs he hd]
  have hl := flat_len (f := byteC) (fun _ => rfl) bs
  rcases h3 with h3 | ⟨b, off, rfl, hc⟩
  · rw [h3] at hl
    have hb : bs = [] := List.eq_nil_of_length_eq_zero (by simpa using hl.symm)
    subst hb
    cases a with
    | none => simp [Conv.bytesToString, str, Sem.run_pure]; rfl
    | some a => simp [Conv.bytesToString, str, loadCells, loadCellsFrom, Sem.run_pure]; rfl
  · have hm := flat_bytes bs
    rw [hm] at hc
    have hload := run_loadCells_list (P := P) w ⟨b, off, none⟩ ((bs.map fun b => ((b.toNat : Nat) : Int)).map (Value.int .u8)) (fun j u hj => by rw [Addr.add_lit]; exact hc j u hj)
    rw [run_bytesToString w ⟨b, off, none⟩ bs.length cap (bs.map fun b => ((b.toNat : Nat) : Int)) (by simpa using hload), foldl_push]
    simp [str]
/-- A byte out of an int. -/
theorem byte_of (n : Int) : ((UInt8.ofNat (n % 256).toNat).toNat : Int) = n % 256 := by
  have h0 : 0 ≤ n % 256 := Int.emod_nonneg _ (by decide)
  have h1 : n % 256 < 256 := Int.emod_lt_of_pos _ (by decide)
  simp; omega

/-! ### Several elements at once -/
theorem RL.newN {α : Type} {f : α → List Value} (w : World) (e : TypeId) (fr : Nat × Nat) (ys : List α) (hn : ys.length ≤ maxLen) : RL f (w.alloc (.cells (ys.flatMap f).toArray e fr)) (.slice (some ⟨w.heap.size, 0, none⟩) ys.length ys.length) ys := by
  refine ⟨_, _, rfl, Nat.le_refl _, hn, .inr ⟨_, _, rfl, fun j u hj => ?_⟩⟩
  rw [cell_of_row _ _ _ (ys.flatMap f).toArray e fr (heap_alloc_new w _)]
  simpa using hj
theorem wpList_pushN {α : Type} {f : α → List Value} {P : Program} {w : World} {ops : Array Oper} {rest : List Oper} {o : Oper} {a : Act} {Q : Exit → Act → World → Prop} {cs : Array Value} {fr : Nat × Nat} {g n : Nat} (hgd : o.guard = none) (s x : Operand) (t : TypeId)
    (ho : o.op = .call { callee := .builtin .append, args := #[s, x], argTypes := #[t, t] })
    (base : Nat) (e : TypeId) (c bytes : Nat) (hF : Flat f c) (hT : Elem P t e c bytes) {v : Value} {l : List α} (hown : Own f base e c w v l) (hs : a.eval s = v)
    (ys : List α) (hcs : (ys.flatMap f).toArray = cs) (hx : a.eval x = .slice (some ⟨g, 0, none⟩) n n) (hroom : (l.length + ys.length) * bytes ≤ 140737488355328) (h63 : l.length + ys.length ≤ maxLen) (hbase : base ≤ w.heap.size)
    (h : ∀ v' w', Own f base e c w' v' (l ++ ys) → Below base w w' → w.grownBy w' v.ownBlock → wpList P ops Q rest (a.put o.dst v') w')
    (hg : g = w.heap.size := by first | rfl | (simp; done)) (hn : n = ys.length := by first | rfl | (simp; done)) : wpList P ops Q (o :: rest) a (w.alloc (.cells cs e fr)) := by
  subst hcs
  subst hg
  subst hn
  refine wpList_app hgd s x t ho base e c bytes hF hT (hown.alloc _) hs ys (RL.newN w e fr ys (by omega)) hx hroom h63 (by simp; omega) fun v' w' h1 h2 => ?_
  have hlt := World.ownsRow.lt hown
  exact h v' w' h1 (((Below.refl base w).alloc hbase _).grown h2 (by simp; omega) fun k hk => (hlt k hk).1)
    ⟨h2.os, h2.tape, h2.output, by have := h2.size; simp at this; omega, fun k hk hne => by rw [h2.block k (by simp; omega) hne, Below.heap_alloc w _ k hk]⟩
/-- A literal slice is owned. -/
theorem Own.lit {α : Type} {f : α → List Value} {c : Nat} (hF : Flat f c) (base : Nat) (e : TypeId) (w : World) (ys : List α) (hb : base ≤ w.heap.size) (hn : ys.length ≤ maxLen) {cs : Array Value} (hcs : (ys.flatMap f).toArray = cs) {g n : Nat} (hg : g = w.heap.size) (hnn : n = ys.length) :
    Own f base e c (w.alloc (.cells cs e)) (.slice (some ⟨g, 0, none⟩) n n) ys := by
  subst hcs hg hnn
  refine ⟨flat_len hF.len ys, .inr ⟨w.heap.size, ys.length, _, rfl, hb, heap_alloc_new w _, Nat.le_refl _, hn, ?_, ?_⟩⟩
  · simp [flat_len hF.len ys]
  · simp only [List.toList_toArray]; exact List.take_of_length_le (Nat.le_of_eq (flat_len hF.len ys))
def byte (n : Int) : UInt8 := UInt8.ofNat (n % 256).toNat
theorem byte_val (n : Int) : ((byte n).toNat : Int) = n % 256 := byte_of n

/-- append onto a literal: a new row. -/
theorem run_app_full {α : Type} {f : α → List Value} {P : Program} (w : World) (base : Nat) (t ty e : TypeId) (c bytes : Nat) (hF : Flat f c) (hT : Elem P t e c bytes) (g1 g2 : Nat) (l l2 : List α) (hpos : 0 < l2.length)
    (h1 : ∀ j u, (l.flatMap f)[j]? = some u → w.cell? ⟨g1, j, none⟩ = some u) (h2 : ∀ j u, (l2.flatMap f)[j]? = some u → w.cell? ⟨g2, j, none⟩ = some u)
    (hroom : (l.length + l2.length) * bytes ≤ 140737488355328) (h63 : l.length + l2.length ≤ maxLen) (hbase : base ≤ w.heap.size) :
    ∃ v' w', (Builtin.append_ #[t, t] ty #[.slice (some ⟨g1, 0, none⟩) l.length l.length, .slice (some ⟨g2, 0, none⟩) l2.length l2.length]).run P w = .ok v' w' ∧ Own f base e c w' v' (l ++ l2) ∧ w.grownBy w' none := by
  obtain ⟨ht, i, z, hi, hz, rfl, rfl, hzs⟩ := hT
  have hsmall : l.length + l2.length ≤ 9223372036854775807 := by simp only [maxLen] at h63; omega
  have hl1 := flat_len hF.len l
  have hl2 := flat_len hF.len l2
  have hr := run_append_grow (P := P) w t ty e i z ht hi hz ⟨g1, 0, none⟩ l.length l.length (l.flatMap f) hl1 (fun j u hj => by rw [Addr.add_lit]; simpa using h1 j u hj) ⟨g2, 0, none⟩ l2.length l2.length (l2.flatMap f) hl2 (fun j u hj => by rw [Addr.add_lit]; simpa using h2 j u hj) (by omega) (by omega) (growslice_fits (by omega) hroom)
  have hge := grownCap_ge w (l.length + l2.length) l.length e
  have hcm : grownCap w (l.length + l2.length) l.length e ≤ maxLen := grownCap_le_maxLen w _ _ e h63
  have hlen : (l.flatMap f ++ l2.flatMap f).length = (l.length + l2.length) * i.size := by rw [List.length_append, hl1, hl2, Nat.add_mul]
  refine ⟨_, _, hr, ?_, ⟨rfl, rfl, rfl, by simp, fun k hk _ => Below.heap_alloc w.drew _ k hk⟩⟩
  unfold Own
  rw [List.length_append, List.flatMap_append]
  refine ⟨hlen, .inr ⟨w.heap.size, _, _, rfl, hbase, heap_alloc_new w.drew _, hge, hcm, ?_, ?_⟩⟩
  · simp only [Array.size_append, List.size_toArray, size_zeroCells, hzs, hl1, hl2, ← Nat.add_mul]
    congr 1
    omega
  · simp only [Array.toList_append, List.append_assoc]
    rw [← List.append_assoc, ← hlen]
    exact List.take_left
/-- 'append(literal, ys...)'. -/
theorem wpList_lit {α : Type} {f : α → List Value} {P : Program} {w : World} {ops : Array Oper} {rest : List Oper} {o : Oper} {a : Act} {Q : Exit → Act → World → Prop} {cs0 cs : Array Value} {fr0 fr : Nat × Nat} {g0 n0 g n : Nat} (hgd : o.guard = none) (s x : Operand) (t : TypeId)
    (ho : o.op = .call { callee := .builtin .append, args := #[s, x], argTypes := #[t, t] })
    (base : Nat) (e : TypeId) (c bytes : Nat) (hF : Flat f c) (hT : Elem P t e c bytes) (l ys : List α) (hcs0 : (l.flatMap f).toArray = cs0) (hcs : (ys.flatMap f).toArray = cs)
    (hs : a.eval s = .slice (some ⟨g0, 0, none⟩) n0 n0) (hx : a.eval x = .slice (some ⟨g, 0, none⟩) n n) (hpos : 0 < ys.length) (hroom : (l.length + ys.length) * bytes ≤ 140737488355328) (h63 : l.length + ys.length ≤ maxLen) (hbase : base ≤ w.heap.size)
    (h : ∀ v' w', Own f base e c w' v' (l ++ ys) → Below base w w' → wpList P ops Q rest (a.put o.dst v') w')
    (hg0 : g0 = w.heap.size := by first | rfl | (simp; done)) (hn0 : n0 = l.length := by first | rfl | (simp; done)) (hg : g = w.heap.size + 1 := by first | rfl | (simp; done)) (hn : n = ys.length := by first | rfl | (simp; done)) : wpList P ops Q (o :: rest) a ((w.alloc (.cells cs0 e fr0)).alloc (.cells cs e fr)) := by
  subst hcs0 hcs hg0 hn0 hg hn
  refine wpList_plain hgd fun K hK => ?_
  obtain ⟨v', w', hr, r1, r2⟩ := run_app_full (P := P) ((w.alloc (.cells (l.flatMap f).toArray e fr0)).alloc (.cells (ys.flatMap f).toArray e fr)) base t o.type e c bytes hF hT w.heap.size (w.heap.size + 1) l ys hpos
    (fun j u hj => by
      rw [cell_of_row _ _ _ (l.flatMap f).toArray e fr0 (by rw [Below.heap_alloc _ _ _ (by simp)]; exact heap_alloc_new w _)]
      simpa using hj)
    (fun j u hj => by
      rw [cell_of_row _ _ _ (ys.flatMap f).toArray e fr (by have := heap_alloc_new (w.alloc (.cells (l.flatMap f).toArray e fr0)) (.cells (ys.flatMap f).toArray e fr); simpa using this)]
      simpa using hj) hroom h63 (by simp; omega)
  unfold Oper.wp execOp
  simp only [ho, resolve, invoke, builtin, Sem.run_bind, Sem.run_pure, Result.andThen_ok, List.map_toArray, List.map_cons, List.map_nil, hs, hx, hr]
  exact hK _ _ (h v' w' r1 ((((Below.refl base w).alloc hbase _).alloc (by simp; omega) _).grown r2 (by simp; omega) (fun _ hh => nomatch hh)))
end Wb

namespace Wb
open Go Go.RowKit
structure Wr where
  at_ : Int
  text : ByteArray
structure Dsk where
  safe : List ByteArray
  writes : List Wr
instance : Inhabited Wr := ⟨⟨0, ⟨#[]⟩⟩⟩
instance : Inhabited ByteArray := ⟨⟨#[]⟩⟩
def wrC (x : Wr) : List Value := [.int .i64 x.at_, .string x.text]
theorem wrC_flat : Flat wrC 2 := ⟨fun _ => rfl, fun _ u hu => by simp [wrC] at hu; rcases hu with rfl | rfl <;> rfl, by decide⟩
def isAt (n : Int) : Bool := decide (0 ≤ n ∧ n < 37)
def ok32 (s : ByteArray) : Bool := decide (s.size = 32)
def wrOk (x : Wr) : Bool := isAt x.at_ && ok32 x.text
def goodD (d : Dsk) : Bool := decide (d.safe.length = 37) && decide (d.writes.length ≤ 200) && d.safe.all ok32 && d.writes.all wrOk
theorem goodD_iff (d : Dsk) : goodD d = true ↔ d.safe.length = 37 ∧ d.writes.length ≤ 200 ∧ d.safe.all ok32 = true ∧ d.writes.all wrOk = true := by
  unfold goodD; simp only [Bool.and_eq_true, decide_eq_true_iff, and_assoc]
/-- A disk by value, as it is read. -/
def RDisk (w : World) (v : Value) (d : Dsk) : Prop :=
  ∃ vs vw, v = .agg #[vs, vw] ∧ RL strC w vs d.safe ∧ RL wrC w vw d.writes ∧ d.safe.length ≤ 8796093022208 ∧ d.writes.length ≤ 5864062014805
theorem RDisk.below {w w' : World} {v : Value} {d : Dsk} (h : RDisk w v d) (hb : Below w.heap.size w w') : RDisk w' v d := by
  obtain ⟨vs, vw, hv, h1, h2, h3⟩ := h
  exact ⟨vs, vw, hv, h1.below hb, h2.below hb, h3⟩
/-- What IndexFunc says of a list of which all is well, or not. -/
def idxIs (b : Bool) (r : Int) : Prop := if b = true then r = -1 else 0 ≤ r
/-! ### All of a list, so far -/
theorem all_step {α : Type} {p : α → Bool} {l : List α} {k : Nat} (hk : k < l.length) (h : (l.take k).all p = true) (hp : p l[k] = true) : (l.take (k + 1)).all p = true := by
  rw [List.take_succ_eq_append_getElem hk, List.all_append, h]
  simp [hp]
theorem all_no {α : Type} {p : α → Bool} {l : List α} {k : Nat} (hk : k < l.length) (hp : p l[k] = false) : l.all p = false := by
  rw [← Bool.not_eq_true, List.all_eq_true]
  intro h
  rw [h _ (List.getElem_mem hk)] at hp
  exact Bool.noConfusion hp
theorem all_full {α : Type} {p : α → Bool} {l : List α} {k : Nat} (hk : k ≤ l.length) (hn : ¬ k < l.length) (h : (l.take k).all p = true) : l.all p = true := by
  rw [List.take_of_length_le (by omega)] at h; exact h
/-! ### Reading -/
/-- The last text that is written at a place. -/
def lastT (s : ByteArray) (n : Int) (ws : List Wr) : ByteArray := ws.foldl (fun r x => if x.at_ = n then x.text else r) s
theorem lastT_nil (s : ByteArray) (n : Int) : lastT s n [] = s := rfl
theorem lastT_step (s : ByteArray) (n : Int) (ws : List Wr) (x : Wr) : lastT s n (ws ++ [x]) = if x.at_ = n then x.text else lastT s n ws := by simp [lastT]
theorem lastT_hit (s : ByteArray) (n : Int) {ws : List Wr} {k : Nat} (hk : k < ws.length) (h : ws[k].at_ = n) : lastT s n (ws.take (k + 1)) = ws[k].text := by
  rw [List.take_succ_eq_append_getElem hk, lastT_step, if_pos h]
theorem lastT_miss (s : ByteArray) (n : Int) {ws : List Wr} {k : Nat} (hk : k < ws.length) (h : ws[k].at_ ≠ n) : lastT s n (ws.take (k + 1)) = lastT s n (ws.take k) := by
  rw [List.take_succ_eq_append_getElem hk, lastT_step, if_neg h]
def safeAt (d : Dsk) (n : Int) : ByteArray := d.safe.getD n.toNat ⟨#[]⟩
def readD (d : Dsk) (n : Int) : ByteArray := if goodD d = true ∧ isAt n = true then lastT (safeAt d n) n d.writes else ⟨#[]⟩
def readE (d : Dsk) (n : Int) : Int := if goodD d = true ∧ isAt n = true then 0 else 2
/-- All texts that a block has had since it was safe, that one first. -/
def afterL (s : ByteArray) (n : Int) (ws : List Wr) : List ByteArray := s :: (ws.filter (fun x => decide (x.at_ = n))).map (·.text)
theorem afterL_nil (s : ByteArray) (n : Int) : afterL s n [] = [s] := rfl
theorem afterL_step (s : ByteArray) (n : Int) (ws : List Wr) (x : Wr) : afterL s n (ws ++ [x]) = if x.at_ = n then afterL s n ws ++ [x.text] else afterL s n ws := by
  by_cases h : x.at_ = n <;> simp [afterL, h]
theorem afterL_len (s : ByteArray) (n : Int) (ws : List Wr) : (afterL s n ws).length ≤ ws.length + 1 := by
  simp only [afterL, List.length_cons, List.length_map]
  have := List.length_filter_le (fun x : Wr => decide (x.at_ = n)) ws
  omega
theorem afterL_hit (s : ByteArray) (n : Int) {ws : List Wr} {k : Nat} (hk : k < ws.length) (h : ws[k].at_ = n) : afterL s n (ws.take (k + 1)) = afterL s n (ws.take k) ++ [ws[k].text] := by
  rw [List.take_succ_eq_append_getElem hk, afterL_step, if_pos h]
theorem afterL_miss (s : ByteArray) (n : Int) {ws : List Wr} {k : Nat} (hk : k < ws.length) (h : ws[k].at_ ≠ n) : afterL s n (ws.take (k + 1)) = afterL s n (ws.take k) := by
  rw [List.take_succ_eq_append_getElem hk, afterL_step, if_neg h]
theorem afterL_ne (s : ByteArray) (n : Int) (ws : List Wr) : afterL s n ws ≠ [] := by simp [afterL]
theorem after_last (s : ByteArray) (n : Int) (ws : List Wr) : (afterL s n ws).getLast? = some (lastT s n ws) := by
  have key : ∀ k, k ≤ ws.length → (afterL s n (ws.take k)).getLast? = some (lastT s n (ws.take k)) := by
    intro k
    induction k with
    | zero => intro _; rfl
    | succ k ih =>
      intro hk
      by_cases h : ws[k].at_ = n
      · rw [afterL_hit s n hk h, lastT_hit s n hk h]; simp
      · rw [afterL_miss s n hk h, lastT_miss s n hk h]; exact ih (by omega)
  have := key ws.length (Nat.le_refl _)
  rwa [List.take_length] at this
/-! ### Writing -/
def putE (d : Dsk) (n : Int) (t : ByteArray) : Int := if ¬ (goodD d = true ∧ isAt n = true) then 2 else if t.size ≠ 32 then 1 else if 200 ≤ d.writes.length then 11 else 0
def putD (d : Dsk) (n : Int) (t : ByteArray) : Dsk := if putE d n t = 0 then ⟨d.safe, d.writes ++ [⟨n, t⟩]⟩ else d
end Wb

namespace Wb
open Go Go.RowKit
structure Cpy where
  block : Int
  text : ByteArray
instance : Inhabited Cpy := ⟨⟨0, ⟨#[]⟩⟩⟩
def cpyC (x : Cpy) : List Value := [.int .i64 x.block, .string x.text]
theorem cpyC_flat : Flat cpyC 2 := ⟨fun _ => rfl, fun _ u hu => by simp [cpyC] at hu; rcases hu with rfl | rfl <;> rfl, by decide⟩
structure Hnd where
  on : Bool
  left : Int
structure Txn where
  seq : Int
  mt : List Cpy
  dt : List Cpy
  rev : List Int
  h0 : Hnd
  h1 : Hnd
  h2 : Hnd
def hnd0 : Hnd := ⟨false, 0⟩
def txn0 (seq : Int) : Txn := ⟨seq, [], [], [], hnd0, hnd0, hnd0⟩

/-! ### Lists of copies -/
def blks (l : List Cpy) : List Int := l.map (·.block)
/-- Is a copy of block b among them? -/
def hasB (l : List Cpy) (b : Int) : Bool := l.any (fun c => c.block == b)
def inI (l : List Int) (b : Int) : Bool := l.any (fun x => x == b)
def getC (l : List Cpy) (b : Int) : Option ByteArray := (l.find? (fun c => c.block == b)).map (·.text)
def copiesB (l : List Cpy) : Bool := rise (blks l) && l.all (fun c => ok32 c.text)
def hOk (h : Hnd) : Bool := decide (0 ≤ h.left ∧ h.left ≤ 24) && (h.on || decide (h.left = 0))
def seqOk (s : Int) : Bool := decide (1 ≤ s ∧ s ≤ 2147483647)
def apart (t : Txn) : Bool := t.rev.all (fun b => !hasB t.mt b && !hasB t.dt b) && t.mt.all (fun c => !hasB t.dt c.block)
def goodT (t : Txn) : Bool := seqOk t.seq && copiesB t.mt && copiesB t.dt && rise t.rev && apart t && (hOk t.h0 && hOk t.h1 && hOk t.h2)
theorem goodT_iff (t : Txn) : goodT t = true ↔ seqOk t.seq = true ∧ copiesB t.mt = true ∧ copiesB t.dt = true ∧ rise t.rev = true ∧ apart t = true ∧ hOk t.h0 = true ∧ hOk t.h1 = true ∧ hOk t.h2 = true := by
  unfold goodT; simp only [Bool.and_eq_true, and_assoc]

/-- Three cells and seven: a transaction by value. -/
def txnV (t : Txn) (vm vd vr : Value) : Value := .agg #[.int .i64 t.seq, vm, vd, vr, .bool t.h0.on, .int .i64 t.h0.left, .bool t.h1.on, .int .i64 t.h1.left, .bool t.h2.on, .int .i64 t.h2.left]
def RTxn (w : World) (v : Value) (t : Txn) : Prop :=
  ∃ vm vd vr, v = txnV t vm vd vr ∧ RL cpyC w vm t.mt ∧ RL cpyC w vd t.dt ∧ RL intC w vr t.rev ∧ t.mt.length ≤ 5864062014805 ∧ t.dt.length ≤ 5864062014805 ∧ t.rev.length ≤ 17592186044160
theorem RTxn.below {w w' : World} {v : Value} {t : Txn} (h : RTxn w v t) (hb : Below w.heap.size w w') : RTxn w' v t := by
  obtain ⟨vm, vd, vr, hv, h1, h2, h3, h4⟩ := h
  exact ⟨vm, vd, vr, hv, h1.below hb, h2.below hb, h3.below hb, h4⟩

/-! ### Lists of transactions: what their cells hold -/
structure SlV where
  a : Option Addr
  n : Nat
  c : Nat
def SlV.val (x : SlV) : Value := .slice x.a x.n x.c
structure TV where
  t : Txn
  m : SlV
  d : SlV
  r : SlV
def tvC (x : TV) : List Value := [.int .i64 x.t.seq, x.m.val, x.d.val, x.r.val, .bool x.t.h0.on, .int .i64 x.t.h0.left, .bool x.t.h1.on, .int .i64 x.t.h1.left, .bool x.t.h2.on, .int .i64 x.t.h2.left]
theorem tvC_flat : Flat tvC 10 := ⟨fun _ => rfl, fun _ u hu => by simp [tvC, SlV.val] at hu; rcases hu with rfl | rfl | rfl | rfl | rfl | rfl | rfl | rfl | rfl | rfl <;> rfl, by decide⟩
def TV.val (x : TV) : Value := txnV x.t x.m.val x.d.val x.r.val
/-- The cells of x read as the transaction x.t. -/
def TV.ok (w : World) (x : TV) : Prop := RTxn w x.val x.t
theorem RTxn.tv {w : World} {v : Value} {t : Txn} (h : RTxn w v t) : ∃ x : TV, x.t = t ∧ v = x.val ∧ x.ok w := by
  have hh := h
  obtain ⟨vm, vd, vr, rfl, h1, h2, h3, h4⟩ := h
  obtain ⟨a, c, rfl, _⟩ := h1.form
  obtain ⟨a2, c2, rfl, _⟩ := h2.form
  obtain ⟨a3, c3, rfl, _⟩ := h3.form
  exact ⟨⟨t, ⟨a, _, c⟩, ⟨a2, _, c2⟩, ⟨a3, _, c3⟩⟩, rfl, rfl, hh⟩
/-- A slice of transactions, as it is read. -/
def RTxns (w : World) (v : Value) (l : List Txn) : Prop := ∃ xs : List TV, RL tvC w v xs ∧ xs.map (·.t) = l ∧ (∀ x ∈ xs, x.ok w) ∧ xs.length ≤ 1099511627744
theorem RTxns.below {w w' : World} {v : Value} {l : List Txn} (h : RTxns w v l) (hb : Below w.heap.size w w') : RTxns w' v l := by
  obtain ⟨xs, h1, h2, h3, h4⟩ := h
  exact ⟨xs, h1.below hb, h2, fun x hx => (h3 x hx).below hb, h4⟩
theorem RTxns.nil (w : World) : RTxns w (.slice none 0 0) [] := ⟨[], RL.nil _ _, rfl, (fun _ h => absurd h List.not_mem_nil), by decide⟩
theorem RTxns.form {w : World} {v : Value} {l : List Txn} (h : RTxns w v l) : ∃ a c, v = .slice a l.length c ∧ l.length ≤ 1099511627744 := by
  obtain ⟨xs, h1, rfl, h3, h4⟩ := h
  obtain ⟨a, c, hv, _⟩ := h1.form
  exact ⟨a, c, by rw [hv, List.length_map], by rw [List.length_map]; exact h4⟩
theorem RL.at10 {α : Type} {f : α → List Value} {w : World} {a : Option Addr} {n cap : Nat} {l : List α} (g0 g1 g2 g3 g4 g5 g6 g7 g8 g9 : α → Value) (hf : ∀ x, f x = [g0 x, g1 x, g2 x, g3 x, g4 x, g5 x, g6 x, g7 x, g8 x, g9 x]) (h : RL f w (.slice a n cap) l) {k : Nat} (hk : k < l.length) :
    ∃ b off, a = some ⟨b, off, none⟩ ∧ w.cell? ⟨b, off + k * 10, none⟩ = some (g0 l[k]) ∧ w.cell? ⟨b, off + k * 10 + 1, none⟩ = some (g1 l[k]) ∧ w.cell? ⟨b, off + k * 10 + 2, none⟩ = some (g2 l[k]) ∧ w.cell? ⟨b, off + k * 10 + 3, none⟩ = some (g3 l[k]) ∧ w.cell? ⟨b, off + k * 10 + 4, none⟩ = some (g4 l[k]) ∧ w.cell? ⟨b, off + k * 10 + 5, none⟩ = some (g5 l[k]) ∧ w.cell? ⟨b, off + k * 10 + 6, none⟩ = some (g6 l[k]) ∧ w.cell? ⟨b, off + k * 10 + 7, none⟩ = some (g7 l[k]) ∧ w.cell? ⟨b, off + k * 10 + 8, none⟩ = some (g8 l[k]) ∧ w.cell? ⟨b, off + k * 10 + 9, none⟩ = some (g9 l[k]) := by
  obtain ⟨b, off, ha, hc⟩ := RL.at (c := 10) (fun x => by rw [hf]; rfl) h hk (by decide)
  exact ⟨b, off, ha, hc 0 _ (by rw [hf]; rfl), hc 1 _ (by rw [hf]; rfl), hc 2 _ (by rw [hf]; rfl), hc 3 _ (by rw [hf]; rfl), hc 4 _ (by rw [hf]; rfl), hc 5 _ (by rw [hf]; rfl), hc 6 _ (by rw [hf]; rfl), hc 7 _ (by rw [hf]; rfl), hc 8 _ (by rw [hf]; rfl), hc 9 _ (by rw [hf]; rfl)⟩
/-- Element k of a slice of transactions: ten cells that read as it. -/
theorem RTxns.at {w : World} {a : Option Addr} {n cap : Nat} {l : List Txn} (h : RTxns w (.slice a n cap) l) {k : Nat} (hk : k < l.length) :
    ∃ b off vm vd vr, a = some ⟨b, off, none⟩ ∧ RTxn w (txnV l[k] vm vd vr) l[k] ∧ w.cell? ⟨b, off + k * 10, none⟩ = some (.int .i64 l[k].seq) ∧ w.cell? ⟨b, off + k * 10 + 1, none⟩ = some vm ∧ w.cell? ⟨b, off + k * 10 + 2, none⟩ = some vd ∧ w.cell? ⟨b, off + k * 10 + 3, none⟩ = some vr ∧ w.cell? ⟨b, off + k * 10 + 4, none⟩ = some (.bool l[k].h0.on) ∧ w.cell? ⟨b, off + k * 10 + 5, none⟩ = some (.int .i64 l[k].h0.left) ∧ w.cell? ⟨b, off + k * 10 + 6, none⟩ = some (.bool l[k].h1.on) ∧ w.cell? ⟨b, off + k * 10 + 7, none⟩ = some (.int .i64 l[k].h1.left) ∧ w.cell? ⟨b, off + k * 10 + 8, none⟩ = some (.bool l[k].h2.on) ∧ w.cell? ⟨b, off + k * 10 + 9, none⟩ = some (.int .i64 l[k].h2.left) := by
  obtain ⟨xs, h1, rfl, h3, h4⟩ := h
  have hk' : k < xs.length := by simpa using hk
  obtain ⟨b, off, ha, c0, c1, c2, c3, c4, c5, c6, c7, c8, c9⟩ := RL.at10 (fun x : TV => .int .i64 x.t.seq) (fun x => x.m.val) (fun x => x.d.val) (fun x => x.r.val) (fun x => .bool x.t.h0.on) (fun x => .int .i64 x.t.h0.left) (fun x => .bool x.t.h1.on) (fun x => .int .i64 x.t.h1.left) (fun x => .bool x.t.h2.on) (fun x => .int .i64 x.t.h2.left) (fun _ => rfl) h1 hk'
  have hx := h3 xs[k] (List.getElem_mem hk')
  simp only [List.getElem_map]
  exact ⟨b, off, _, _, _, ha, hx, c0, c1, c2, c3, c4, c5, c6, c7, c8, c9⟩

/-! ### Looking for a copy -/
theorem hasB_get (l : List Cpy) (b : Int) : hasB l b = (getC l b).isSome := by
  unfold hasB getC
  rw [Option.isSome_map]
  induction l with
  | nil => rfl
  | cons c l ih =>
    rw [List.any_cons, List.find?_cons]
    cases c.block == b with
    | true => rfl
    | false => simpa using ih
theorem getC_step {l : List Cpy} {b : Int} {k : Nat} (hk : k < l.length) (h : hasB (l.take k) b = false) (hb : l[k].block = b) : getC l b = some l[k].text := by
  have hn : (l.take k).find? (fun c => c.block == b) = none := by
    rw [List.find?_eq_none]
    intro x hx hh
    unfold hasB at h
    rw [List.any_eq_false] at h
    exact h x hx hh
  have e : l.find? (fun c => c.block == b) = some l[k] := by
    conv => lhs; rw [← List.take_append_drop k l]
    rw [List.find?_append, hn, Option.none_or, List.drop_eq_getElem_cons hk, List.find?_cons, beq_iff_eq.2 hb]
  unfold getC
  rw [e]; rfl
theorem hasB_step {l : List Cpy} {b : Int} {k : Nat} (hk : k < l.length) : hasB (l.take (k + 1)) b = (hasB (l.take k) b || (l[k].block == b)) := by
  unfold hasB
  rw [List.take_succ_eq_append_getElem hk, List.any_append]
  simp
theorem hasB_full {l : List Cpy} {b : Int} {k : Nat} (hk : ¬ k < l.length) : hasB (l.take k) b = hasB l b := by rw [List.take_of_length_le (by omega)]
theorem getC_none {l : List Cpy} {b : Int} (h : hasB l b = false) : getC l b = none := by
  rw [hasB_get] at h
  cases hg : getC l b with
  | none => rfl
  | some x => rw [hg] at h; cases h
theorem inI_step {l : List Int} {b : Int} {k : Nat} (hk : k < l.length) : inI (l.take (k + 1)) b = (inI (l.take k) b || (l[k] == b)) := by
  unfold inI
  rw [List.take_succ_eq_append_getElem hk, List.any_append]
  simp
theorem inI_full {l : List Int} {b : Int} {k : Nat} (hk : ¬ k < l.length) : inI (l.take k) b = inI l b := by rw [List.take_of_length_le (by omega)]
theorem inI_hit {l : List Int} {b : Int} {k : Nat} (hk : k < l.length) (hb : l[k] = b) : inI l b = true := by
  unfold inI
  exact List.any_eq_true.2 ⟨_, List.getElem_mem hk, beq_iff_eq.2 hb⟩
theorem hasB_hit {l : List Cpy} {b : Int} {k : Nat} (hk : k < l.length) (hb : l[k].block = b) : hasB l b = true := by
  unfold hasB
  exact List.any_eq_true.2 ⟨_, List.getElem_mem hk, beq_iff_eq.2 hb⟩
end Wb

namespace Wb
open Go Go.ChangeShapes Go.WideShapes Go.ChangeAt Go.RowKit Go.Joins Go.Deep
section
variable {H : Type} {enc : TypeId × Value → H} {P : Program} {w : World} {base : Nat} {spare : Nat → Bool} {held : Bool}
theorem read_RLq {α : Type} [Inhabited α] {f : α → List Value} {c : Nat} {Q : α → DataW H → Prop} (hf : ∀ x, (f x).length = c) (h0 : 0 < c) {t e : TypeId} {fuel : Nat} {cs : List Value} {x : DataW H × List MemPlace} (ht : P.underlying t = some (.slice e)) (hc : P.cellsOf e = c)
    (hread : ∀ n cs' y, DataW.trod enc P w base spare held n e cs' = some y → cs'.length = c → ∃ x : α, cs' = f x ∧ Q x y.1) (h : DataW.trod enc P w base spare held fuel t cs = some x) :
    ∃ (v : Value) (l : List α), cs = [v] ∧ RL f w v l ∧ ((x.1 = .nil ∧ l = []) ∨ ∃ el sp, x.1 = .slice el sp ∧ el.length = l.length ∧ ∀ (i : Nat) (z : α), l[i]? = some z → ∃ y, el[i]? = some y ∧ Q z y) := by
  rcases open_slice ht h with ⟨rfl, rfl⟩ | ⟨a, len, cap, m, n, D, Pl, rfl, hb, hl, hm, hmm, rfl, hx⟩
  · exact ⟨_, [], rfl, RL.nil f w, .inl ⟨rfl, rfl⟩⟩
  have hlm : len ≤ m := by rw [hmm]; split <;> omega
  have each : ∀ i, i < len → ∃ x : α, (∀ r, r < c → w.cell? (a.add (i * c + r)) = (f x)[r]?) ∧ Q x (D i) := by
    intro i hi
    obtain ⟨cs', h1, h2⟩ := hx i (by omega)
    rw [hc] at h1
    obtain ⟨_, hlen, hcell⟩ := World.cells?_some h1
    obtain ⟨x, rfl, hq⟩ := hread _ _ _ h2 hlen
    exact ⟨x, fun r hr => by have := hcell r hr; rwa [add_add] at this, hq⟩
  obtain ⟨X, hX⟩ := choose_lt each
  refine ⟨_, (List.range len).map X, rfl, ?_, .inr ⟨_, _, rfl, by simp, ?_⟩⟩
  rotate_left
  · intro i z hz
    rw [List.getElem?_map, Option.map_eq_some_iff] at hz
    obtain ⟨k, hk, rfl⟩ := hz
    obtain ⟨hkl, rfl⟩ := List.getElem?_eq_some_iff.1 hk
    simp only [List.length_range] at hkl
    refine ⟨D i, by rw [List.getElem?_map, hk]; simp, ?_⟩
    simpa using (hX i hkl).2
  refine ⟨some a, cap, by simp, by simpa using hl, hm, ?_⟩
  by_cases hlen : len = 0
  · subst hlen; left; rfl
  right
  have hspot : a.spot = none := by
    have h1 := (hX 0 (by omega)).1 0 h0
    have h2 : (f (X 0))[0]? ≠ none := by rw [Ne, List.getElem?_eq_none_iff, hf]; omega
    obtain ⟨u, hu⟩ := Option.ne_none_iff_exists'.1 h2
    rw [hu] at h1
    simpa [Addr.add] using World.cell?_spot h1
  obtain ⟨b, off, spot⟩ := a
  obtain rfl : spot = none := hspot
  refine ⟨b, off, rfl, fun j u hj => ?_⟩
  obtain ⟨i, x, r, h1, rfl, h3, h4⟩ := flat_at hf _ _ _ hj
  rw [List.getElem?_map, Option.map_eq_some_iff] at h1
  obtain ⟨k, hk, rfl⟩ := h1
  obtain ⟨hkl, rfl⟩ := List.getElem?_eq_some_iff.1 hk
  simp only [List.length_range] at hkl
  simp only [List.getElem_range] at h3
  have := (hX i hkl).1 r h4
  rw [h3, Addr.add_lit] at this
  exact this
end
theorem weightsAll_mem {H : Type} {P : Program} {e : TypeId} : ∀ {l : List (DataW H)} {i : Nat} {y : DataW H}, l[i]? = some y → ∀ n ∈ y.weights P e, n ∈ DataW.weightsAll P e l
  | d :: r, 0, y, h, n, hn => by
    simp only [List.getElem?_cons_zero, Option.some.injEq] at h
    subst h
    simp only [DataW.weightsAll, List.mem_append]
    exact .inl hn
  | d :: r, i + 1, y, h, n, hn => by
    simp only [List.getElem?_cons_succ] at h
    simp only [DataW.weightsAll, List.mem_append]
    exact .inr (weightsAll_mem h n hn)
  | [], _, _, h, _, _ => by simp at h
instance : Inhabited TV := ⟨⟨txn0 0, ⟨none, 0, 0⟩, ⟨none, 0, 0⟩, ⟨none, 0, 0⟩⟩⟩
end Wb
namespace Go.Proofs.YtjhmfljlclajnabDoor
open Go.ChangeShapes Go.WideShapes Go.ChangeAt Go.RowKit Go.Joins Wb
set_option maxRecDepth 100000
section
variable {H : Type} {enc : TypeId × Value → H} {W : World} {base : Nat}
theorem read_copies {fuel : Nat} {cs : List Value} {x : DataW H × List MemPlace} (h : DataW.trod enc Tryd.prog W 0 (fun _ => true) true fuel 24 cs = some x) :
    ∃ (v : Value) (l : List Cpy), cs = [v] ∧ RL cpyC W v l ∧ ((x.1 = .nil ∧ l = []) ∨ ∃ el sp, x.1 = .slice el sp ∧ el.length = l.length) :=
  read_RL (c := 2) (fun _ => rfl) (by decide) Tryd.underlying24 (by kernel_rfl) (fun n cs' y hy hlen => by
    obtain ⟨y0, y1, n, _, _, h0, h1⟩ := trod_struct2 Tryd.underlying74 hy
    match cs', hlen with
    | [u0, u1], _ =>
      have h0 : DataW.trod enc Tryd.prog W 0 (fun _ => true) true n 3 [u0] = some y0 := h0
      have h1 : DataW.trod enc Tryd.prog W 0 (fun _ => true) true n 9 [u1] = some y1 := h1
      obtain ⟨a, e0, _⟩ := DataW.trod_int Tryd.underlying3 h0
      obtain ⟨b, e1, _⟩ := DataW.trod_string Tryd.underlying9 h1
      simp at e0 e1
      subst e0 e1
      exact ⟨⟨a, b⟩, rfl⟩) h
theorem read_hnd {n : Nat} {u0 u1 : Value} {x : DataW H × List MemPlace} (hy : DataW.trod enc Tryd.prog W 0 (fun _ => true) true n 27 [u0, u1] = some x) : ∃ h : Hnd, u0 = .bool h.on ∧ u1 = .int .i64 h.left := by
  obtain ⟨y0, y1, n, _, _, h0, h1⟩ := trod_struct2 Tryd.underlying27 hy
  have h0 : DataW.trod enc Tryd.prog W 0 (fun _ => true) true n 4 [u0] = some y0 := h0
  have h1 : DataW.trod enc Tryd.prog W 0 (fun _ => true) true n 3 [u1] = some y1 := h1
  obtain ⟨a, e0, _⟩ := DataW.trod_bool Tryd.underlying4 h0
  obtain ⟨b, e1, _⟩ := DataW.trod_int Tryd.underlying3 h1
  simp at e0 e1
  subst e0 e1
  exact ⟨⟨a, b⟩, rfl, rfl⟩
theorem read_txnCells {n : Nat} {cs : List Value} {x : DataW H × List MemPlace} (hlen : cs.length = 10) (h : DataW.trod enc Tryd.prog W 0 (fun _ => true) true n 30 cs = some x) :
    ∃ tv : TV, cs = tvC tv ∧ ((x.1.weights Tryd.prog 30).all (· ≤ reachBytes) = true → tv.ok W) := by
  obtain ⟨xs, m, _, hx, hl, hln, hg⟩ := DataW.trod_struct Tryd.underlying30 h
  match cs, hlen, xs, hln with
  | [u0, u1, u2, u3, u4, u5, u6, u7, u8, u9], _, [y0, y1, y2, y3, y4], _ =>
    have h0 : DataW.trod enc Tryd.prog W 0 (fun _ => true) true m 3 [u0] = some y0 := hg 0 _ rfl
    have h1 : DataW.trod enc Tryd.prog W 0 (fun _ => true) true m 24 [u1] = some y1 := hg 1 _ rfl
    have h2 : DataW.trod enc Tryd.prog W 0 (fun _ => true) true m 24 [u2] = some y2 := hg 2 _ rfl
    have h3 : DataW.trod enc Tryd.prog W 0 (fun _ => true) true m 25 [u3] = some y3 := hg 3 _ rfl
    have h4 : DataW.trod enc Tryd.prog W 0 (fun _ => true) true m 28 [u4, u5, u6, u7, u8, u9] = some y4 := hg 4 _ rfl
    obtain ⟨a, e0, _⟩ := DataW.trod_int Tryd.underlying3 h0
    obtain ⟨v1, l1, e1, r1, d1⟩ := read_copies h1
    obtain ⟨v2, l2, e2, r2, d2⟩ := read_copies h2
    obtain ⟨v3, l3, e3, r3, d3⟩ := read_ints h3
    obtain ⟨zs, m2, _, hz, _, hzl, hh⟩ := DataW.trod_array Tryd.underlying28 h4
    match zs, hzl with
    | [z0, z1, z2], _ =>
    have k0 : DataW.trod enc Tryd.prog W 0 (fun _ => true) true m2 27 [u4, u5] = some z0 := hh 0 (by decide)
    have k1 : DataW.trod enc Tryd.prog W 0 (fun _ => true) true m2 27 [u6, u7] = some z1 := hh 1 (by decide)
    have k2 : DataW.trod enc Tryd.prog W 0 (fun _ => true) true m2 27 [u8, u9] = some z2 := hh 2 (by decide)
    obtain ⟨p0, f0, f1⟩ := read_hnd k0
    obtain ⟨p1, f2, f3⟩ := read_hnd k1
    obtain ⟨p2, f4, f5⟩ := read_hnd k2
    simp only [List.cons.injEq, and_true] at e0 e1 e2 e3
    subst e0 e1 e2 e3 f0 f1 f2 f3 f4 f5
    obtain ⟨a1, c1, rfl, _⟩ := r1.form
    obtain ⟨a2, c2, rfl, _⟩ := r2.form
    obtain ⟨a3, c3, rfl, _⟩ := r3.form
    refine ⟨⟨⟨a, l1, l2, l3, p0, p1, p2⟩, ⟨a1, _, c1⟩, ⟨a2, _, c2⟩, ⟨a3, _, c3⟩⟩, rfl, fun hw => ?_⟩
    subst hx
    have hw2 : (DataW.weightsEach Tryd.prog [3, 24, 24, 25, 28] [y0.1, y1.1, y2.1, y3.1, y4.1]).all (· ≤ reachBytes) = true := by
      simpa [DataW.weights, Tryd.underlying30] using hw
    have b1 : Tryd.prog.bytesOf 74 = 24 := by kernel_rfl
    have b3 : Tryd.prog.bytesOf 3 = 8 := by kernel_rfl
    refine ⟨_, _, _, rfl, r1, r2, r3, ?_, ?_, ?_⟩
    · rcases d1 with ⟨_, rfl⟩ | ⟨el, sp, hy, hel⟩
      · simp
      · have := sized_slice hw2 (j := 1) rfl (by simp [hy]; exact ⟨rfl, rfl⟩) Tryd.underlying24
        rw [b1] at this
        unfold reachBytes at this
        dsimp only
        omega
    · rcases d2 with ⟨_, rfl⟩ | ⟨el, sp, hy, hel⟩
      · simp
      · have := sized_slice hw2 (j := 2) rfl (by simp [hy]; exact ⟨rfl, rfl⟩) Tryd.underlying24
        rw [b1] at this
        unfold reachBytes at this
        dsimp only
        omega
    · rcases d3 with ⟨_, rfl⟩ | ⟨el, sp, hy, hel⟩
      · simp
      · have := sized_slice hw2 (j := 3) rfl (by simp [hy]; exact ⟨rfl, rfl⟩) Tryd.underlying25
        rw [b3] at this
        unfold reachBytes at this
        dsimp only
        omega
theorem tvVal (x : TV) : x.val = .agg (tvC x).toArray := rfl
theorem read_txn {v : Value} {d : DataW H} {p : List MemPlace} (hv : Value.okWide Tryd.prog W .any base 30 v)
    (h : DataW.Trod enc Tryd.prog W 0 (fun _ => true) true 30 v d p) (hw : (d.weights Tryd.prog 30).all (· ≤ reachBytes) = true) : ∃ t : Txn, RTxn W v t := by
  obtain ⟨cs, rfl, hsz⟩ := okWide_struct Tryd.underlying30 hv
  obtain ⟨fuel, hf⟩ := h
  have hsz' : cs.size = 10 := hsz.trans (by kernel_rfl)
  obtain ⟨ls⟩ := cs
  have hf' : DataW.trod enc Tryd.prog W 0 (fun _ => true) true fuel 30 ls = some (d, p) := hf
  obtain ⟨tv, hc, hok⟩ := read_txnCells (by simpa using hsz') hf'
  refine ⟨tv.t, ?_⟩
  have hk := hok hw
  rw [hc]
  exact hk
theorem read_txns {fuel : Nat} {cs : List Value} {x : DataW H × List MemPlace} (h : DataW.trod enc Tryd.prog W 0 (fun _ => true) true fuel 40 cs = some x) (hw : (x.1.weights Tryd.prog 40).all (· ≤ reachBytes) = true) :
    ∃ (v : Value) (l : List Txn), cs = [v] ∧ RTxns W v l := by
  obtain ⟨v, l, rfl, hr, hd⟩ := read_RLq (f := tvC) (c := 10) (Q := fun z y => (y.weights Tryd.prog 30).all (· ≤ reachBytes) = true → z.ok W) (fun _ => rfl) (by decide) Tryd.underlying40 (by kernel_rfl) (fun n cs' y hy hlen => read_txnCells hlen hy) h
  refine ⟨v, l.map (·.t), rfl, l, hr, rfl, ?_, ?_⟩
  · intro z hz
    rcases hd with ⟨_, rfl⟩ | ⟨el, sp, hy, hel, hq⟩
    · cases hz
    · obtain ⟨i, hi, rfl⟩ := List.getElem_of_mem hz
      obtain ⟨y, hy2, hq2⟩ := hq i _ (List.getElem?_eq_getElem hi)
      refine hq2 (List.all_eq_true.2 fun n hn => List.all_eq_true.1 hw n ?_)
      rw [hy]
      simp only [DataW.weights, Tryd.underlying40, List.mem_cons, List.mem_append]
      exact .inr (.inl (weightsAll_mem hy2 n hn))
  · rcases hd with ⟨_, rfl⟩ | ⟨el, sp, hy, hel, hq⟩
    · simp
    · have b1 : Tryd.prog.bytesOf 30 = 128 := by kernel_rfl
      have := List.all_eq_true.1 hw ((el.length + sp.length) * 128) (by rw [hy]; simp [DataW.weights, Tryd.underlying40, b1])
      unfold reachBytes at this
      simp only [decide_eq_true_eq] at this
      omega
theorem open_txns {v : Value} {d : DataW H} {p : List MemPlace} (hv : Value.okWide Tryd.prog W .any base 40 v)
    (h : DataW.Trod enc Tryd.prog W 0 (fun _ => true) true 40 v d p) (hw : (d.weights Tryd.prog 40).all (· ≤ reachBytes) = true) : ∃ l : List Txn, RTxns W v l := by
  obtain ⟨a, n, c, rfl⟩ := okWide_slice Tryd.underlying40 hv
  obtain ⟨fuel, hf⟩ := h
  obtain ⟨v', l, hc, hr⟩ := read_txns (cs := [.slice a n c]) hf hw
  simp only [List.cons.injEq, and_true] at hc
  subst hc
  exact ⟨l, hr⟩
theorem open_copies {v : Value} {d : DataW H} {p : List MemPlace} (hv : Value.okWide Tryd.prog W .any base 24 v)
    (h : DataW.Trod enc Tryd.prog W 0 (fun _ => true) true 24 v d p) (hw : (d.weights Tryd.prog 24).all (· ≤ reachBytes) = true) : ∃ l : List Cpy, RL cpyC W v l ∧ l.length ≤ 5864062014805 := by
  obtain ⟨a, n, c, rfl⟩ := okWide_slice Tryd.underlying24 hv
  obtain ⟨fuel, hf⟩ := h
  obtain ⟨v', l, hc, hr, hd⟩ := read_copies (cs := [.slice a n c]) hf
  simp only [List.cons.injEq, and_true] at hc
  subst hc
  refine ⟨l, hr, ?_⟩
  rcases hd with ⟨_, rfl⟩ | ⟨el, sp, hy, hel⟩
  · simp
  · have b1 : Tryd.prog.bytesOf 74 = 24 := by kernel_rfl
    have hy' : d = .slice el sp := hy
    have := List.all_eq_true.1 hw ((el.length + sp.length) * 24) (by rw [hy']; simp [DataW.weights, Tryd.underlying24, b1])
    unfold reachBytes at this
    simp only [decide_eq_true_eq] at this
    omega
end
end Go.Proofs.YtjhmfljlclajnabDoor

namespace Wb
open Go Go.RowKit
def dropC (l : List Cpy) (b : Int) : List Cpy := l.filter (fun c => c.block != b)
theorem dropC_step {l : List Cpy} {b : Int} {k : Nat} (hk : k < l.length) : dropC (l.take (k + 1)) b = if l[k].block = b then dropC (l.take k) b else dropC (l.take k) b ++ [l[k]] := by
  unfold dropC
  rw [List.take_succ_eq_append_getElem hk, List.filter_append]
  by_cases h : l[k].block = b
  · rw [if_pos h]; simp [h]
  · rw [if_neg h]; simp [h]
theorem dropC_len (l : List Cpy) (b : Int) : (dropC l b).length ≤ l.length := List.length_filter_le _ _
def withK (l : List Cpy) (b : Int) (s : ByteArray) (k : Nat) : Option Cpy := if (k : Int) = b then some ⟨b, s⟩ else (getC l k).map fun t => ⟨k, t⟩
def withN (l : List Cpy) (b : Int) (s : ByteArray) (n : Nat) : List Cpy := (List.range n).filterMap (withK l b s)
def withL (l : List Cpy) (b : Int) (s : ByteArray) : List Cpy := withN l b s 12
theorem withN_step (l : List Cpy) (b : Int) (s : ByteArray) (k : Nat) : withN l b s (k + 1) = withN l b s k ++ (withK l b s k).toList := by
  unfold withN
  rw [List.range_succ, List.filterMap_append]
  cases h : withK l b s k <;> simp [h]
theorem withN_len (l : List Cpy) (b : Int) (s : ByteArray) (k : Nat) : (withN l b s k).length ≤ k := by
  unfold withN
  exact Nat.le_trans (List.length_filterMap_le _ _) (by simp)
end Wb

namespace Wb
open Go Go.RowKit
/-- Copies of the blocks 0 to 11, by number, as a function has them. -/
def viewN (f : Int → Option ByteArray) (n : Nat) : List Cpy := (List.range n).filterMap fun (k : Nat) => (f k).map fun t => (⟨k, t⟩ : Cpy)
def viewL (f : Int → Option ByteArray) : List Cpy := viewN f 12
/-- What a transaction makes of block b's copy. -/
def turnT (t : Txn) (o : Option ByteArray) (b : Int) : Option ByteArray := match getC t.mt b with | some s => some s | none => if inI t.rev b then none else o
def newestB (l : List Txn) (b : Int) : Option ByteArray := l.foldl (fun o t => turnT t o b) none
def newestL (l : List Txn) : List Cpy := viewL (newestB l)
theorem newestB_snoc (l : List Txn) (t : Txn) (b : Int) : newestB (l ++ [t]) b = turnT t (newestB l b) b := by simp [newestB]
theorem newestB_step {l : List Txn} {k : Nat} (hk : k < l.length) (b : Int) : newestB (l.take (k + 1)) b = turnT l[k] (newestB (l.take k) b) b := by
  rw [List.take_succ_eq_append_getElem hk, newestB_snoc]
theorem viewN_succ (f : Int → Option ByteArray) (n : Nat) : viewN f (n + 1) = viewN f n ++ ((f n).map fun t => (⟨n, t⟩ : Cpy)).toList := by
  unfold viewN
  rw [List.range_succ, List.filterMap_append]
  cases h : (f n).map fun t => (⟨n, t⟩ : Cpy) <;> simp [h]
theorem viewN_len (f : Int → Option ByteArray) (n : Nat) : (viewN f n).length ≤ n := by
  unfold viewN
  exact Nat.le_trans (List.length_filterMap_le _ _) (by simp)
theorem viewN_congr {f g : Int → Option ByteArray} {n : Nat} (h : ∀ k : Nat, k < n → f k = g k) : viewN f n = viewN g n := by
  induction n with
  | zero => rfl
  | succ n ih => rw [viewN_succ, viewN_succ, ih (fun k hk => h k (by omega)), h n (by omega)]
theorem viewL_congr {f g : Int → Option ByteArray} (h : ∀ k : Nat, k < 12 → f k = g k) : viewL f = viewL g := viewN_congr h
theorem viewN_mem {f : Int → Option ByteArray} {n : Nat} {c : Cpy} : c ∈ viewN f n ↔ ∃ k : Nat, k < n ∧ c.block = k ∧ f k = some c.text := by
  unfold viewN
  rw [List.mem_filterMap]
  constructor
  · rintro ⟨k, hk, hc⟩
    rw [Option.map_eq_some_iff] at hc
    obtain ⟨t, ht, rfl⟩ := hc
    exact ⟨k, List.mem_range.1 hk, rfl, ht⟩
  · rintro ⟨k, hk, hb, ht⟩
    refine ⟨k, List.mem_range.2 hk, ?_⟩
    rw [ht, Option.map_some]
    obtain ⟨b, t⟩ := c
    simp only at hb
    subst hb
    rfl
theorem getC_viewN {f : Int → Option ByteArray} {n : Nat} (b : Int) : getC (viewN f n) b = if 0 ≤ b ∧ b < n then f b else none := by
  induction n with
  | zero =>
    rw [if_neg (by omega)]
    rfl
  | succ n ih =>
    rw [viewN_succ]
    have happ : ∀ (l1 l2 : List Cpy), getC (l1 ++ l2) b = (getC l1 b).or (getC l2 b) := fun l1 l2 => by
      unfold getC
      rw [List.find?_append]
      cases List.find? (fun c => c.block == b) l1 <;> rfl
    rw [happ, ih]
    by_cases h1 : 0 ≤ b ∧ b < n
    · rw [if_pos h1, if_pos (by omega)]
      cases hf : f b with
      | some s => rfl
      | none =>
        cases hg : f n with
        | none => rfl
        | some s =>
          have : ((n : Int) == b) = false := beq_eq_false_iff_ne.2 (by omega)
          simp [getC, this]
    · rw [if_neg h1, Option.none_or]
      by_cases h2 : b = n
      · subst h2
        rw [if_pos (by omega)]
        cases hg : f n with
        | none => rfl
        | some s => simp [getC]
      · rw [if_neg (by omega)]
        cases hg : f n with
        | none => rfl
        | some s =>
          have : ((n : Int) == b) = false := beq_eq_false_iff_ne.2 (fun h => h2 h.symm)
          simp [getC, this]
theorem getC_viewL {f : Int → Option ByteArray} {b : Int} (h0 : 0 ≤ b) (h1 : b < 12) : getC (viewL f) b = f b := by
  unfold viewL
  rw [getC_viewN, if_pos ⟨h0, by simpa using h1⟩]
/-- 'rest' upon such a list. -/
theorem dropC_view (f : Int → Option ByteArray) (b : Int) : dropC (viewL f) b = viewL (fun x => if x = b then none else f x) := by
  unfold viewL
  generalize 12 = n
  induction n with
  | zero => rfl
  | succ n ih =>
    have happ : ∀ (l1 l2 : List Cpy), dropC (l1 ++ l2) b = dropC l1 b ++ dropC l2 b := fun l1 l2 => List.filter_append _ _
    rw [viewN_succ, viewN_succ, happ, ih]
    congr 1
    by_cases h : (n : Int) = b
    · rw [if_pos h]
      cases hf : f n with
      | none => rfl
      | some s => simp [dropC, h]
    · rw [if_neg h]
      cases hf : f n with
      | none => rfl
      | some s => simp [dropC, h]
/-- 'with' upon such a list. -/
theorem withL_view (f : Int → Option ByteArray) (b : Int) (s : ByteArray) : withL (viewL f) b s = viewL (fun x => if x = b then some s else f x) := by
  unfold withL
  have key : ∀ n : Nat, n ≤ 12 → withN (viewL f) b s n = viewN (fun x => if x = b then some s else f x) n := by
    intro n
    induction n with
    | zero => intro _; rfl
    | succ n ih =>
      intro hn
      rw [withN_step, viewN_succ, ih (by omega)]
      congr 1
      unfold withK
      by_cases h : (n : Int) = b
      · rw [if_pos h, if_pos h, Option.map_some, h]
      · rw [if_neg h, if_neg h, getC_viewL (by omega) (by omega)]
  exact key 12 (Nat.le_refl _)

/-! ### Lists that rise -/
theorem rise_get {l : List Int} (h : rise l = true) {k : Nat} (hk : k < l.length) : 0 ≤ l[k] ∧ l[k] < 12 ∧ ∀ i (hi : i < k), l[i] < l[k] := by
  have hr := (rise_iff l).1 h
  have hg : ∀ j (hj : j < l.length), l.getD j 0 = l[j] := fun j hj => by simp [hj]
  have hlt : ∀ d i, i + d < l.length → 0 < d → l.getD i 0 < l.getD (i + d) 0 := by
    intro d
    induction d with
    | zero => intro i _ h; omega
    | succ d ih =>
      intro i hi _
      have h1 := (hr (i + (d + 1)) hi).2.2 (by omega)
      rw [show i + (d + 1) - 1 = i + d by omega] at h1
      by_cases hd : 0 < d
      · have := ih i (by omega) hd
        omega
      · obtain rfl : d = 0 := by omega
        simpa using h1
  have h0 := hr k hk
  refine ⟨by rw [← hg k hk]; exact h0.1, by rw [← hg k hk]; exact h0.2.1, fun i hi => ?_⟩
  have := hlt (k - i) i (by omega) (by omega)
  rw [show i + (k - i) = k by omega, hg i (by omega), hg k hk] at this
  exact this
theorem copies_get {l : List Cpy} (h : copiesB l = true) {k : Nat} (hk : k < l.length) : isBlk l[k].block = true ∧ l[k].text.size = 32 ∧ (∀ i (hi : i < k), l[i].block < l[k].block) ∧ hasB (l.take k) l[k].block = false := by
  unfold copiesB at h
  rw [Bool.and_eq_true] at h
  have hk' : k < (blks l).length := by simpa [blks] using hk
  obtain ⟨g1, g2, g3⟩ := rise_get h.1 hk'
  have e : ∀ j (hj : j < l.length), (blks l)[j]'(by simpa [blks] using hj) = l[j].block := fun j hj => by simp [blks]
  rw [e k hk] at g1 g2
  have g4 : ∀ i (hi : i < k), l[i].block < l[k].block := fun i hi => by
    have := g3 i hi
    rw [e k hk, e i (by omega)] at this
    exact this
  refine ⟨decide_eq_true ⟨g1, g2⟩, of_decide_eq_true (List.all_eq_true.1 h.2 _ (List.getElem_mem hk)), g4, ?_⟩
  unfold hasB
  rw [List.any_eq_false]
  intro c hc
  obtain ⟨i, hi, rfl⟩ := List.mem_iff_getElem.1 hc
  rw [List.length_take] at hi
  rw [List.getElem_take]
  have := g4 i (by omega)
  simp only [beq_iff_eq]
  omega
theorem copies_len {l : List Cpy} (h : copiesB l = true) : l.length ≤ 12 := by
  by_cases hl : l.length ≤ 12
  · exact hl
  · exfalso
    have hk : ∀ k (hk : k < l.length), (k : Int) ≤ l[k].block := by
      intro k
      induction k with
      | zero => intro hk; have := of_decide_eq_true (copies_get h hk).1; exact this.1
      | succ k ih =>
        intro hk
        have h1 := ih (by omega)
        have h2 := (copies_get h hk).2.2.1 k (by omega)
        omega
    have h12 := of_decide_eq_true (copies_get h (k := 12) (by omega)).1
    have := hk 12 (by omega)
    omega
theorem rise_len {l : List Int} (h : rise l = true) : l.length ≤ 12 := by
  by_cases hl : l.length ≤ 12
  · exact hl
  · exfalso
    have hk : ∀ k (hk : k < l.length), (k : Int) ≤ l[k] := by
      intro k
      induction k with
      | zero => intro hk; exact (rise_get h hk).1
      | succ k ih =>
        intro hk
        have h1 := ih (by omega)
        have h2 := (rise_get h hk).2.2 k (by omega)
        omega
    have h12 := (rise_get h (k := 12) (by omega)).2.1
    have := hk 12 (by omega)
    omega

/-! ### One transaction's turn -/
def revF (g : Int → Option ByteArray) (r : List Int) : Int → Option ByteArray := fun x => if inI r x then none else g x
theorem revF_step (g : Int → Option ByteArray) {r : List Int} {k : Nat} (hk : k < r.length) : (fun x => if x = r[k] then none else revF g (r.take k) x) = revF g (r.take (k + 1)) := by
  funext x
  unfold revF
  rw [inI_step hk]
  by_cases h : x = r[k]
  · have hb : (r[k] == x) = true := beq_iff_eq.2 h.symm
    rw [if_pos h, hb, Bool.or_true, if_pos rfl]
  · have hb : (r[k] == x) = false := beq_eq_false_iff_ne.2 (fun hh => h hh.symm)
    rw [if_neg h, hb, Bool.or_false]
def metaF (g : Int → Option ByteArray) (m : List Cpy) : Int → Option ByteArray := m.foldl (fun f c x => if x = c.block then some c.text else f x) g
theorem metaF_step (g : Int → Option ByteArray) {m : List Cpy} {k : Nat} (hk : k < m.length) : (fun x => if x = m[k].block then some m[k].text else metaF g (m.take k) x) = metaF g (m.take (k + 1)) := by
  unfold metaF
  rw [List.take_succ_eq_append_getElem hk, List.foldl_append]
  rfl
theorem metaF_good {m : List Cpy} (h : copiesB m = true) (g : Int → Option ByteArray) (x : Int) : metaF g m x = match getC m x with | some s => some s | none => g x := by
  have key : ∀ k, k ≤ m.length → metaF g (m.take k) x = match getC (m.take k) x with | some s => some s | none => g x := by
    intro k
    induction k with
    | zero => intro _; rfl
    | succ k ih =>
      intro hk
      have hk' : k < m.length := by omega
      rw [← metaF_step g hk']
      have hd := (copies_get h hk').2.2.2
      have hget : getC (m.take (k + 1)) x = (getC (m.take k) x).or (if m[k].block = x then some m[k].text else none) := by
        unfold getC
        rw [List.take_succ_eq_append_getElem hk', List.find?_append]
        cases hf : (m.take k).find? (fun c => c.block == x) with
        | some c => rfl
        | none =>
          by_cases hb : m[k].block = x
          · simp [hb]
          · have : (m[k].block == x) = false := beq_eq_false_iff_ne.2 hb
            simp [hb, this]
      rw [hget]
      show (if x = m[k].block then some m[k].text else metaF g (m.take k) x) = _
      by_cases hb : x = m[k].block
      · have hn := getC_none hd
        rw [← hb] at hn
        rw [if_pos hb, hn, if_pos hb.symm]
        rfl
      · rw [if_neg hb, if_neg (fun hh => hb hh.symm), Option.or_none]
        exact ih (by omega)
  have := key m.length (Nat.le_refl _)
  rwa [List.take_length] at this
theorem turn_good {t : Txn} (h : copiesB t.mt = true) (g : Int → Option ByteArray) : metaF (revF g t.rev) t.mt = fun b => turnT t (g b) b := by
  funext b
  rw [metaF_good h]
  unfold turnT revF
  cases getC t.mt b <;> rfl
theorem good_meta {t : Txn} (h : goodT t = true) {k : Nat} (hk : k < t.mt.length) : inI t.rev t.mt[k].block = false ∧ hasB t.dt t.mt[k].block = false := by
  obtain ⟨_, _, _, _, ha, _⟩ := (goodT_iff t).1 h
  unfold apart at ha
  rw [Bool.and_eq_true, List.all_eq_true, List.all_eq_true] at ha
  constructor
  · unfold inI
    rw [List.any_eq_false]
    intro x hx hh
    rw [beq_iff_eq] at hh
    subst hh
    have := ha.1 _ hx
    rw [Bool.and_eq_true] at this
    have h2 := hasB_hit hk rfl
    rw [h2] at this
    cases this.1
  · have := ha.2 _ (List.getElem_mem hk)
    simpa using this
end Wb

namespace Wb
open Go Go.RowKit
def cmpI (x y : Int) : Int := if x < y then -1 else if y < x then 1 else 0
theorem cmpI_lt {x y : Int} (h : x < y) : cmpI x y = -1 := if_pos h
theorem cmpI_gt {x y : Int} (h : y < x) : cmpI x y = 1 := by unfold cmpI; rw [if_neg (by omega), if_pos h]
theorem cmpI_eq {x y : Int} (h : x = y) : cmpI x y = 0 := by unfold cmpI; rw [if_neg (by omega), if_neg (by omega)]
/-- How many blocks stand ahead of one. -/
def posB (l : List Cpy) (b : Int) : Nat := (l.filter (fun c => decide (c.block < b))).length
theorem pos_of {l : List Cpy} {b : Int} {i : Nat} (hi : i ≤ l.length) (h1 : ∀ k (hk : k < l.length), k < i → l[k].block < b) (h2 : ∀ k (hk : k < l.length), i ≤ k → b ≤ l[k].block) : posB l b = i := by
  unfold posB
  have e : l.filter (fun c => decide (c.block < b)) = l.take i := by
    conv => lhs; rw [← List.take_append_drop i l, List.filter_append]
    rw [List.filter_eq_self.2, List.filter_eq_nil_iff.2, List.append_nil]
    · intro c hc
      obtain ⟨k, hk, rfl⟩ := List.mem_iff_getElem.1 hc
      rw [List.getElem_drop]
      rw [List.length_drop] at hk
      have := h2 (i + k) (by omega) (by omega)
      simpa using this
    · intro c hc
      obtain ⟨k, hk, rfl⟩ := List.mem_iff_getElem.1 hc
      rw [List.getElem_take]
      rw [List.length_take] at hk
      exact decide_eq_true (h1 k (by omega) (by omega))
  rw [e, List.length_take]
  omega
theorem rises {l : List Cpy} (h : rise (blks l) = true) : ∀ k (hk : k < l.length) i (hi : i < k), l[i].block < l[k].block := by
  intro k hk i hi
  have hk' : k < (blks l).length := by simpa [blks] using hk
  have := (rise_get h hk').2.2 i hi
  simpa [blks] using this
theorem has_of {l : List Cpy} {b : Int} {i : Nat} (hs : ∀ k (hk : k < l.length) i (hi : i < k), l[i].block < l[k].block) (h1 : ∀ k (hk : k < l.length), k < i → l[k].block < b) (h2 : ∀ k (hk : k < l.length), i ≤ k → b ≤ l[k].block) :
    hasB l b = true ↔ ∃ h : i < l.length, l[i].block = b := by
  unfold hasB
  rw [List.any_eq_true]
  constructor
  · rintro ⟨c, hc, hb⟩
    obtain ⟨k, hk, rfl⟩ := List.mem_iff_getElem.1 hc
    have hb : l[k].block = b := beq_iff_eq.1 hb
    have hik : i ≤ k := by
      by_cases hki : k < i
      · have := h1 k hk hki; omega
      · omega
    refine ⟨by omega, ?_⟩
    by_cases e : i = k
    · subst e; exact hb
    · have := hs k hk i (by omega)
      have := h2 i (by omega) (Nat.le_refl _)
      omega
  · rintro ⟨h, hb⟩
    exact ⟨_, List.getElem_mem h, beq_iff_eq.2 hb⟩
end Wb

namespace Wb
open Go Go.RowKit

/-! ### Lists that rise are told by what is in them -/
theorem pw_ext {α : Type} (key : α → Int) : ∀ (l m : List α), (l.map key).Pairwise (· < ·) → (m.map key).Pairwise (· < ·) → (∀ x, x ∈ l ↔ x ∈ m) → l = m
  | [], [], _, _, _ => rfl
  | [], y :: m, _, _, h => absurd ((h y).2 List.mem_cons_self) List.not_mem_nil
  | x :: l, [], _, _, h => absurd ((h x).1 List.mem_cons_self) List.not_mem_nil
  | x :: l, y :: m, hl, hm, h => by
    rw [List.map_cons, List.pairwise_cons] at hl hm
    have hx := (h x).1 List.mem_cons_self
    have hy := (h y).2 List.mem_cons_self
    have e : x = y := by
      rcases List.mem_cons.1 hx with e | e
      · exact e
      · rcases List.mem_cons.1 hy with e2 | e2
        · exact e2.symm
        · have a := hl.1 (key y) (List.mem_map_of_mem e2)
          have b := hm.1 (key x) (List.mem_map_of_mem e)
          omega
    subst e
    congr 1
    refine pw_ext key l m hl.2 hm.2 fun z => ⟨fun hz => ?_, fun hz => ?_⟩
    · rcases List.mem_cons.1 ((h z).1 (List.mem_cons_of_mem _ hz)) with e | e
      · subst e; have := hl.1 (key z) (List.mem_map_of_mem hz); omega
      · exact e
    · rcases List.mem_cons.1 ((h z).2 (List.mem_cons_of_mem _ hz)) with e | e
      · subst e; have := hm.1 (key z) (List.mem_map_of_mem hz); omega
      · exact e
theorem rise_pw (l : List Int) : rise l = true ↔ l.Pairwise (· < ·) ∧ ∀ x ∈ l, 0 ≤ x ∧ x < 12 := by
  constructor
  · intro h
    refine ⟨List.pairwise_iff_getElem.2 fun i j hi hj hij => (rise_get h hj).2.2 i hij, fun x hx => ?_⟩
    obtain ⟨k, hk, rfl⟩ := List.mem_iff_getElem.1 hx
    exact ⟨(rise_get h hk).1, (rise_get h hk).2.1⟩
  · rintro ⟨h1, h2⟩
    rw [rise_iff]
    intro k hk
    have e := h2 l[k] (List.getElem_mem hk)
    refine ⟨by simpa [List.getD_eq_getElem?_getD, hk] using e.1, by simpa [List.getD_eq_getElem?_getD, hk] using e.2, fun h0 => ?_⟩
    have := List.pairwise_iff_getElem.1 h1 (k - 1) k (by omega) hk (by omega)
    simpa [List.getD_eq_getElem?_getD, hk, show k - 1 < l.length by omega] using this
theorem copies_pw (l : List Cpy) : copiesB l = true ↔ (blks l).Pairwise (· < ·) ∧ ∀ c ∈ l, isBlk c.block = true ∧ c.text.size = 32 := by
  unfold copiesB
  rw [Bool.and_eq_true, rise_pw, List.all_eq_true]
  constructor
  · rintro ⟨⟨h1, h2⟩, h3⟩
    exact ⟨h1, fun c hc => ⟨decide_eq_true (h2 _ (List.mem_map_of_mem hc)), of_decide_eq_true (h3 c hc)⟩⟩
  · rintro ⟨h1, h2⟩
    refine ⟨⟨h1, fun x hx => ?_⟩, fun c hc => decide_eq_true (h2 c hc).2⟩
    obtain ⟨c, hc, rfl⟩ := List.mem_map.1 hx
    exact of_decide_eq_true (h2 c hc).1
theorem mem_getC : ∀ {l : List Cpy}, (blks l).Pairwise (· < ·) → ∀ c : Cpy, c ∈ l ↔ getC l c.block = some c.text
  | [], _, c => by simp [getC]
  | x :: l, h, c => by
    rw [blks, List.map_cons, List.pairwise_cons] at h
    have ih := mem_getC (l := l) h.2 c
    rw [List.mem_cons]
    by_cases e : x.block = c.block
    · have hg : getC (x :: l) c.block = some x.text := by simp [getC, e]
      rw [hg]
      constructor
      · rintro (rfl | hc)
        · rfl
        · have := h.1 c.block (List.mem_map_of_mem hc); omega
      · intro ht
        left
        obtain ⟨b, t⟩ := x; obtain ⟨b', t'⟩ := c
        simp only [Option.some.injEq] at ht
        simp only at e
        rw [e, ht]
    · have hg : getC (x :: l) c.block = getC l c.block := by
        unfold getC
        rw [List.find?_cons_of_neg (by simpa using e)]
      rw [hg, ← ih]
      constructor
      · rintro (rfl | hc)
        · exact absurd rfl e
        · exact hc
      · exact .inr
theorem getC_of_mem {l : List Cpy} (h : (blks l).Pairwise (· < ·)) {c : Cpy} (hc : c ∈ l) : getC l c.block = some c.text := (mem_getC h c).1 hc
theorem hasB_iff {l : List Cpy} {b : Int} : hasB l b = true ↔ ∃ c ∈ l, c.block = b := by simp [hasB]
theorem inI_iff {l : List Int} {b : Int} : inI l b = true ↔ b ∈ l := by simp [inI]
theorem inI_no {l : List Int} {b : Int} : inI l b = false ↔ b ∉ l := by rw [← inI_iff]; simp
/-- Two lists of good copies that have the same text of each block are the same. -/
theorem copies_ext {l m : List Cpy} (hl : copiesB l = true) (hm : copiesB m = true) (h : ∀ b, isBlk b = true → getC l b = getC m b) : l = m := by
  obtain ⟨h1, h2⟩ := (copies_pw l).1 hl
  obtain ⟨h3, h4⟩ := (copies_pw m).1 hm
  refine pw_ext Cpy.block l m h1 h3 fun c => ?_
  constructor
  · intro hc
    rw [mem_getC h3, ← h _ (h2 c hc).1, ← mem_getC h1]; exact hc
  · intro hc
    rw [mem_getC h1, h _ (h4 c hc).1, ← mem_getC h3]; exact hc
theorem viewN_pw (f : Int → Option ByteArray) (n : Nat) : (blks (viewN f n)).Pairwise (· < ·) := by
  induction n with
  | zero => exact List.Pairwise.nil
  | succ n ih =>
    rw [viewN_succ, blks, List.map_append]
    refine List.pairwise_append.2 ⟨ih, ?_, ?_⟩
    · cases f n <;> simp
    · intro a ha b hb
      obtain ⟨c, hc, rfl⟩ := List.mem_map.1 ha
      obtain ⟨d, hd, rfl⟩ := List.mem_map.1 hb
      obtain ⟨k, hk, he, _⟩ := viewN_mem.1 hc
      cases hf : f n with
      | none => rw [hf] at hd; simp at hd
      | some t => rw [hf] at hd; simp at hd; subst hd; simp only; omega
theorem viewL_copies {f : Int → Option ByteArray} (h : ∀ b t, isBlk b = true → f b = some t → t.size = 32) : copiesB (viewL f) = true := by
  rw [copies_pw]
  refine ⟨viewN_pw f 12, fun c hc => ?_⟩
  obtain ⟨k, hk, he, ht⟩ := viewN_mem.1 hc
  have hb : isBlk c.block = true := decide_eq_true (by omega)
  exact ⟨hb, h c.block c.text hb (by rw [he]; exact ht)⟩
theorem getC_blk {l : List Cpy} (h : copiesB l = true) {b : Int} {t : ByteArray} (hg : getC l b = some t) : isBlk b = true ∧ t.size = 32 := by
  obtain ⟨h1, h2⟩ := (copies_pw l).1 h
  have := (mem_getC h1 ⟨b, t⟩).2 hg
  exact h2 _ this
theorem view_self {l : List Cpy} (h : copiesB l = true) : viewL (getC l) = l := by
  refine copies_ext (viewL_copies fun b t _ ht => (getC_blk h ht).2) h fun b hb => ?_
  have := of_decide_eq_true hb
  exact getC_viewL this.1 this.2
theorem withL_is (l : List Cpy) (b : Int) (s : ByteArray) : withL l b s = viewL (fun x => if x = b then some s else getC l x) := by
  unfold withL withN viewL viewN
  congr 1
  funext k
  unfold withK
  by_cases e : (k : Int) = b
  · show (if (k : Int) = b then _ else _) = Option.map _ (if (k : Int) = b then _ else _)
    rw [if_pos e, if_pos e, ← e]; rfl
  · show (if (k : Int) = b then _ else _) = Option.map _ (if (k : Int) = b then _ else _)
    rw [if_neg e, if_neg e]

/-! ### A copy put among others -/
theorem pos_at {l : List Cpy} (b : Int) (h : rise (blks l) = true) : (∀ k (hk : k < l.length), k < posB l b → l[k].block < b) ∧ (∀ k (hk : k < l.length), posB l b ≤ k → b ≤ l[k].block) ∧ posB l b ≤ l.length := by
  have hr := rises h
  have hle : l.findIdx (fun c => !decide (c.block < b)) ≤ l.length := List.findIdx_le_length
  have h1 : ∀ k (hk : k < l.length), k < l.findIdx (fun c => !decide (c.block < b)) → l[k].block < b := fun k hk hlt => by
    have := List.not_of_lt_findIdx hlt
    simpa using this
  have h2 : ∀ k (hk : k < l.length), l.findIdx (fun c => !decide (c.block < b)) ≤ k → b ≤ l[k].block := fun k hk hge => by
    have hlt : l.findIdx (fun c => !decide (c.block < b)) < l.length := by omega
    have h3 := List.findIdx_getElem (w := hlt)
    have h4 : b ≤ l[l.findIdx (fun c => !decide (c.block < b))].block := by simpa using h3
    by_cases e : l.findIdx (fun c => !decide (c.block < b)) = k
    · simp only [e] at h4; exact h4
    · have := hr k hk _ (show l.findIdx (fun c => !decide (c.block < b)) < k by omega)
      omega
  rw [pos_of hle h1 h2]
  exact ⟨h1, h2, hle⟩
theorem has_at {l : List Cpy} {b : Int} (h : rise (blks l) = true) : hasB l b = true ↔ ∃ hk : posB l b < l.length, l[posB l b].block = b := by
  obtain ⟨h1, h2, _⟩ := pos_at b h
  exact has_of (rises h) h1 h2
/-- The copies with a block's, as the program lays them. -/
def putL (l : List Cpy) (b : Int) (s : ByteArray) : List Cpy := if hasB l b then l.set (posB l b) ⟨b, s⟩ else l.take (posB l b) ++ ⟨b, s⟩ :: l.drop (posB l b)
theorem copies_rise {l : List Cpy} (h : copiesB l = true) : rise (blks l) = true := by
  unfold copiesB at h; rw [Bool.and_eq_true] at h; exact h.1
/-- The blocks that a list with a block put into it rises through. -/
theorem put_pw {l : List Cpy} (b : Int) (s : ByteArray) (h : copiesB l = true) : (blks (putL l b s)).Pairwise (· < ·) := by
  have hr := copies_rise h
  obtain ⟨h1, h2, hle⟩ := pos_at b hr
  have hpw := ((copies_pw l).1 h).1
  unfold putL
  cases hb : hasB l b with
  | true =>
    rw [if_pos rfl]
    obtain ⟨hk, he⟩ := (has_at hr).1 hb
    have e : blks (l.set (posB l b) ⟨b, s⟩) = blks l := by
      unfold blks
      rw [List.map_set]
      apply List.ext_getElem (by simp)
      intro i h3 h4
      rw [List.getElem_set]
      split
      · rename_i e; subst e; simp [he]
      · rfl
    rw [e]; exact hpw
  | false =>
    rw [if_neg (by decide)]
    have hne : ∀ c ∈ l, c.block ≠ b := fun c hc e => by
      rw [hasB_iff.2 ⟨c, hc, e⟩] at hb; cases hb
    have hsplit : (blks (l.take (posB l b)) ++ blks (l.drop (posB l b))).Pairwise (· < ·) := by
      unfold blks; rw [← List.map_append, List.take_append_drop]; exact hpw
    obtain ⟨p1, p2, p3⟩ := List.pairwise_append.1 hsplit
    have q1 : ∀ x ∈ blks (l.take (posB l b)), x < b := fun x hx => by
      obtain ⟨c, hc, rfl⟩ := List.mem_map.1 hx
      obtain ⟨k, hk, rfl⟩ := List.mem_iff_getElem.1 hc
      rw [List.length_take] at hk
      rw [List.getElem_take]; exact h1 k (by omega) (by omega)
    have q2 : ∀ x ∈ blks (l.drop (posB l b)), b < x := fun x hx => by
      obtain ⟨c, hc, rfl⟩ := List.mem_map.1 hx
      have hn := hne c (List.mem_of_mem_drop hc)
      obtain ⟨k, hk, rfl⟩ := List.mem_iff_getElem.1 hc
      rw [List.length_drop] at hk
      rw [List.getElem_drop] at hn ⊢
      have := h2 (posB l b + k) (by omega) (by omega)
      omega
    unfold blks at *
    rw [List.map_append, List.map_cons]
    refine List.pairwise_append.2 ⟨p1, List.pairwise_cons.2 ⟨q2, p2⟩, fun x hx y hy => ?_⟩
    rcases List.mem_cons.1 hy with rfl | hy
    · exact q1 x hx
    · exact p3 x hx y hy
theorem put_mem {l : List Cpy} (b : Int) (s : ByteArray) (h : copiesB l = true) (c : Cpy) : c ∈ putL l b s ↔ c = ⟨b, s⟩ ∨ (c ∈ l ∧ c.block ≠ b) := by
  have hr := copies_rise h
  have hpw := ((copies_pw l).1 h).1
  unfold putL
  cases hb : hasB l b with
  | true =>
    rw [if_pos rfl]
    obtain ⟨hk, he⟩ := (has_at hr).1 hb
    have hrs := rises hr
    rw [List.mem_iff_getElem]
    constructor
    · rintro ⟨i, hi, rfl⟩
      rw [List.length_set] at hi
      rw [List.getElem_set]
      split
      · exact .inl rfl
      · rename_i hne
        refine .inr ⟨List.getElem_mem hi, fun e => hne ?_⟩
        rcases Nat.lt_trichotomy i (posB l b) with hlt | heq | hgt
        · have := hrs _ hk i hlt; omega
        · exact heq.symm
        · have := hrs i hi _ hgt; omega
    · rintro (rfl | ⟨hc, hne⟩)
      · exact ⟨posB l b, by simpa using hk, by simp⟩
      · obtain ⟨i, hi, rfl⟩ := List.mem_iff_getElem.1 hc
        refine ⟨i, by simpa using hi, ?_⟩
        rw [List.getElem_set, if_neg]
        intro e; subst e; exact hne he
  | false =>
    rw [if_neg (by decide)]
    have hne : ∀ c ∈ l, c.block ≠ b := fun c hc e => by
      rw [hasB_iff.2 ⟨c, hc, e⟩] at hb; cases hb
    have hl : c ∈ l ↔ c ∈ l.take (posB l b) ∨ c ∈ l.drop (posB l b) := by
      rw [← List.mem_append, List.take_append_drop]
    rw [List.mem_append, List.mem_cons, hl]
    constructor
    · rintro (hc | rfl | hc)
      · exact .inr ⟨.inl hc, hne c (List.mem_of_mem_take hc)⟩
      · exact .inl rfl
      · exact .inr ⟨.inr hc, hne c (List.mem_of_mem_drop hc)⟩
    · rintro (rfl | ⟨hc | hc, _⟩)
      · exact .inr (.inl rfl)
      · exact .inl hc
      · exact .inr (.inr hc)
theorem put_copies {l : List Cpy} {b : Int} {s : ByteArray} (h : copiesB l = true) (hb : isBlk b = true) (hs : s.size = 32) : copiesB (putL l b s) = true := by
  rw [copies_pw]
  refine ⟨put_pw b s h, fun c hc => ?_⟩
  rcases (put_mem b s h c).1 hc with rfl | ⟨hc, _⟩
  · exact ⟨hb, hs⟩
  · exact ((copies_pw l).1 h).2 c hc
theorem put_get {l : List Cpy} (b : Int) (s : ByteArray) (h : copiesB l = true) (x : Int) : getC (putL l b s) x = if x = b then some s else getC l x := by
  have hp := put_pw b s h
  have hpw := ((copies_pw l).1 h).1
  have hm := mem_getC hp
  by_cases e : x = b
  · subst e
    rw [if_pos rfl]
    exact (hm ⟨x, s⟩).1 ((put_mem x s h _).2 (.inl rfl))
  · rw [if_neg e]
    cases hg : getC l x with
    | some t =>
      exact (hm ⟨x, t⟩).1 ((put_mem b s h _).2 (.inr ⟨(mem_getC hpw ⟨x, t⟩).2 hg, e⟩))
    | none =>
      cases hg2 : getC (putL l b s) x with
      | none => rfl
      | some t =>
        rcases (put_mem b s h _).1 ((hm ⟨x, t⟩).2 hg2) with e2 | ⟨hc, _⟩
        · exact absurd (congrArg Cpy.block e2) e
        · rw [(mem_getC hpw ⟨x, t⟩).1 hc] at hg; cases hg
theorem put_with {l : List Cpy} {b : Int} {s : ByteArray} (h : copiesB l = true) (hb : isBlk b = true) (hs : s.size = 32) : putL l b s = withL l b s := by
  rw [withL_is, ← view_self (put_copies h hb hs)]
  exact viewL_congr fun k _ => put_get b s h k
theorem put_len {l : List Cpy} (b : Int) (s : ByteArray) (h : copiesB l = true) : (putL l b s).length = l.length + (if hasB l b then 0 else 1) := by
  have := (pos_at b (copies_rise h)).2.2
  unfold putL
  cases hasB l b
  · simp; omega
  · simp
theorem put_has {l : List Cpy} (b : Int) (s : ByteArray) (h : copiesB l = true) (x : Int) : hasB (putL l b s) x = (decide (x = b) || hasB l x) := by
  rw [hasB_get, hasB_get, put_get b s h]
  by_cases e : x = b
  · simp [e]
  · simp [e]

/-! ### A copy dropped -/
theorem drop_copies {l : List Cpy} (b : Int) (h : copiesB l = true) : copiesB (dropC l b) = true := by
  obtain ⟨h1, h2⟩ := (copies_pw l).1 h
  rw [copies_pw]
  unfold dropC
  refine ⟨?_, fun c hc => h2 c (List.mem_filter.1 hc).1⟩
  exact h1.sublist (List.Sublist.map _ List.filter_sublist)
theorem drop_has (l : List Cpy) (b x : Int) : hasB (dropC l b) x = (hasB l x && decide (x ≠ b)) := by
  rw [Bool.eq_iff_iff, Bool.and_eq_true, hasB_iff, hasB_iff, decide_eq_true_eq]
  unfold dropC
  constructor
  · rintro ⟨c, hc, rfl⟩
    rw [List.mem_filter] at hc
    exact ⟨⟨c, hc.1, rfl⟩, by simpa using hc.2⟩
  · rintro ⟨⟨c, hc, rfl⟩, hne⟩
    exact ⟨c, List.mem_filter.2 ⟨hc, by simpa using hne⟩, rfl⟩
theorem drop_get (l : List Cpy) (b x : Int) : getC (dropC l b) x = if x = b then none else getC l x := by
  by_cases e : x = b
  · rw [if_pos e]
    refine getC_none ?_
    rw [drop_has]; simp [e]
  · rw [if_neg e]
    unfold getC dropC
    rw [List.find?_filter]
    congr 1
    congr 1
    funext c
    by_cases e2 : c.block = x
    · subst e2; simp [e]
    · simp [e2]

/-! ### A number put among others -/
def posI (l : List Int) (b : Int) : Nat := (l.filter (fun x => decide (x < b))).length
def insI (l : List Int) (b : Int) : List Int := l.take (posI l b) ++ b :: l.drop (posI l b)
/-- Of the blocks 0 to n - 1: b itself if 'two', and those other ones that are in l. -/
def revK (two : Bool) (l : List Int) (b : Int) (n : Nat) : List Int := ((List.range n).map fun (k : Nat) => (k : Int)).filter (fun k => (k == b && two) || (k != b && inI l k))
theorem revK_pw (two : Bool) (l : List Int) (b : Int) (n : Nat) : (revK two l b n).Pairwise (· < ·) := by
  unfold revK
  refine List.Pairwise.filter _ ?_
  rw [List.pairwise_map]
  exact List.pairwise_lt_range.imp fun h => by omega
theorem revK_mem (two : Bool) (l : List Int) (b x : Int) (n : Nat) : x ∈ revK two l b n ↔ (0 ≤ x ∧ x < n) ∧ ((x = b ∧ two = true) ∨ (x ≠ b ∧ x ∈ l)) := by
  unfold revK
  rw [List.mem_filter]
  simp only [List.mem_map, List.mem_range, Bool.or_eq_true, Bool.and_eq_true, beq_iff_eq, bne_iff_ne, inI_iff]
  constructor
  · rintro ⟨⟨k, hk, rfl⟩, h⟩
    exact ⟨by omega, h⟩
  · rintro ⟨⟨h0, h1⟩, h⟩
    exact ⟨⟨x.toNat, by omega, by omega⟩, h⟩
theorem revK_succ (two : Bool) (l : List Int) (b : Int) (n : Nat) : revK two l b (n + 1) = revK two l b n ++ (if ((n : Int) == b && two) || ((n : Int) != b && inI l n) then [(n : Int)] else []) := by
  unfold revK
  rw [List.range_succ, List.map_append, List.filter_append]
  congr 1
  rw [List.map_singleton, List.filter_cons, List.filter_nil]
theorem revK_len (two : Bool) (l : List Int) (b : Int) (n : Nat) : (revK two l b n).length ≤ n := by
  unfold revK
  exact Nat.le_trans (List.length_filter_le _ _) (by simp)
theorem posI_at {l : List Int} (b : Int) (h : l.Pairwise (· < ·)) : l.take (posI l b) = l.filter (fun x => decide (x < b)) ∧ l.drop (posI l b) = l.filter (fun x => !decide (x < b)) := by
  induction l with
  | nil => exact ⟨rfl, rfl⟩
  | cons x l ih =>
    rw [List.pairwise_cons] at h
    obtain ⟨i1, i2⟩ := ih h.2
    by_cases e : x < b
    · have hp : posI (x :: l) b = posI l b + 1 := by simp [posI, e]
      rw [hp, List.take_succ_cons, List.drop_succ_cons, i1, i2]
      simp [e]
    · have hf : l.filter (fun x => decide (x < b)) = [] := List.filter_eq_nil_iff.2 fun y hy => by
        have := h.1 y hy; simp; omega
      have hp : posI (x :: l) b = 0 := by simp [posI, e, hf]
      rw [hp]
      have hg : l.filter (fun x => !decide (x < b)) = l := List.filter_eq_self.2 fun y hy => by
        have := h.1 y hy; simp; omega
      simp [e, hf, hg]
theorem posI_le (l : List Int) (b : Int) : posI l b ≤ l.length := List.length_filter_le _ _
theorem ins_mem (l : List Int) (b x : Int) : x ∈ insI l b ↔ x = b ∨ x ∈ l := by
  unfold insI
  rw [List.mem_append, List.mem_cons]
  have : x ∈ l ↔ x ∈ l.take (posI l b) ∨ x ∈ l.drop (posI l b) := by rw [← List.mem_append, List.take_append_drop]
  rw [this]
  constructor
  · rintro (h | h | h) <;> simp [h]
  · rintro (h | h | h) <;> simp [h]
theorem ins_pw {l : List Int} {b : Int} (h : l.Pairwise (· < ·)) (hn : b ∉ l) : (insI l b).Pairwise (· < ·) := by
  obtain ⟨h1, h2⟩ := posI_at b h
  unfold insI
  rw [h1, h2]
  refine List.pairwise_append.2 ⟨h.filter _, List.pairwise_cons.2 ⟨fun y hy => ?_, h.filter _⟩, fun x hx y hy => ?_⟩
  · obtain ⟨hy, hy2⟩ := List.mem_filter.1 hy
    have : y ≠ b := fun e => hn (e ▸ hy)
    simp at hy2; omega
  · obtain ⟨_, hx2⟩ := List.mem_filter.1 hx
    rcases List.mem_cons.1 hy with rfl | hy
    · simpa using hx2
    · obtain ⟨_, hy2⟩ := List.mem_filter.1 hy
      simp at hx2 hy2; omega
theorem ins_rise {l : List Int} {b : Int} (h : rise l = true) (hb : isBlk b = true) (hn : inI l b = false) : rise (insI l b) = true := by
  obtain ⟨h1, h2⟩ := (rise_pw l).1 h
  rw [rise_pw]
  refine ⟨ins_pw h1 (inI_no.1 hn), fun x hx => ?_⟩
  rcases (ins_mem l b x).1 hx with rfl | hx
  · exact of_decide_eq_true hb
  · exact h2 x hx
theorem ins_is {l : List Int} {b : Int} (h : rise l = true) (hb : isBlk b = true) (hn : inI l b = false) : insI l b = revK true l b 12 := by
  obtain ⟨h1, h2⟩ := (rise_pw l).1 h
  have hb := of_decide_eq_true hb
  refine pw_ext id _ _ (by simpa using ins_pw h1 (inI_no.1 hn)) (by simpa using revK_pw true l b 12) fun x => ?_
  rw [ins_mem, revK_mem]
  constructor
  · rintro (rfl | hx)
    · exact ⟨by omega, .inl ⟨rfl, rfl⟩⟩
    · exact ⟨h2 x hx, .inr ⟨fun e => inI_no.1 hn (e ▸ hx), hx⟩⟩
  · rintro ⟨_, ⟨rfl, _⟩ | ⟨_, hx⟩⟩
    · exact .inl rfl
    · exact .inr hx
theorem ins_len (l : List Int) (b : Int) : (insI l b).length = l.length + 1 := by
  have := posI_le l b
  unfold insI; simp; omega
def offI (l : List Int) (b : Int) : List Int := l.filter (fun x => !decide (x = b))
theorem off_mem (l : List Int) (b x : Int) : x ∈ offI l b ↔ x ∈ l ∧ x ≠ b := by simp [offI, List.mem_filter]
theorem off_rise {l : List Int} (b : Int) (h : rise l = true) : rise (offI l b) = true := by
  obtain ⟨h1, h2⟩ := (rise_pw l).1 h
  rw [rise_pw]
  exact ⟨h1.filter _, fun x hx => h2 x ((off_mem l b x).1 hx).1⟩
theorem off_is {l : List Int} (b : Int) (h : rise l = true) : offI l b = revK false l b 12 := by
  obtain ⟨h1, h2⟩ := (rise_pw l).1 h
  refine pw_ext id _ _ (by rw [List.map_id]; exact h1.filter _) (by simpa using revK_pw false l b 12) fun x => ?_
  rw [off_mem, revK_mem]
  constructor
  · rintro ⟨hx, hne⟩; exact ⟨h2 x hx, .inr ⟨hne, hx⟩⟩
  · rintro ⟨_, ⟨_, hf⟩ | ⟨hne, hx⟩⟩
    · cases hf
    · exact ⟨hx, hne⟩
theorem off_len {l : List Int} (b : Int) (h : rise l = true) : (offI l b).length + (if inI l b then 1 else 0) = l.length := by
  have h1 := ((rise_pw l).1 h).1
  clear h
  induction l with
  | nil => rfl
  | cons x l ih =>
    rw [List.pairwise_cons] at h1
    have := ih h1.2
    by_cases e : x = b
    · have hn : inI l b = false := inI_no.2 fun hb => by have := h1.1 b hb; omega
      rw [hn] at this
      have hi : inI (x :: l) b = true := inI_iff.2 (by simp [e])
      rw [hi]
      simp [offI, e] at this ⊢
      exact this
    · have hi : inI (x :: l) b = inI l b := by
        unfold inI; rw [List.any_cons]; simp [e]
      rw [hi]
      simp [offI, e] at this ⊢
      omega
theorem off_in (l : List Int) (b x : Int) : inI (offI l b) x = (inI l x && decide (x ≠ b)) := by
  rw [Bool.eq_iff_iff, Bool.and_eq_true, inI_iff, inI_iff, off_mem, decide_eq_true_eq]
theorem ins_in (l : List Int) (b x : Int) : inI (insI l b) x = (decide (x = b) || inI l x) := by
  rw [Bool.eq_iff_iff, Bool.or_eq_true, inI_iff, inI_iff, ins_mem, decide_eq_true_eq]
end Wb
