/- From a walk that returns true and leaves what was there to the statement's own form. Slices of the arguments, as lists. No program in sight. What arguments read as: from the form's own reading to the plain data. Disks. No program in sight. Disks as arguments. The bounds of an int. Rows of elements of several cells: copy, clear, append onto nothing, insert. No program in sight. What a walk keeps of memory: blocks known whole, readings, and what has not been touched. No program in sight. A region that draws its order, walked in one order: reads of known blocks may come at any time, what writes comes when all that it would turn has been read. No program in sight. -/
import Derived.Test.YtjhmfljlclajnacDoorRows
import Derived.Test.YtjhmfljlclajnacDoorBase
import Derived.ProofKit
import Derived.OpenShut
import Derived.Deep.DeepHandedRow
import Derived.LaidLaws
import Derived.Lib.SmallJoins
import Derived.SizedLaws
import Derived.Test.YtjhmfljlclajnacDoorPure
import Derived.Test.YtjhmfljlclajnacDoorBytes
import Derived.Test.YtjhmfljlclajnacDoorPoke
import Derived.Test.YtjhmfljlclajnacDoorRegCall
import Derived.Lib.AppendZerosOnto
import Derived.Lib.Overlaps
import Derived.Lib.SliceRun
import Derived.Laws.IdiomCopy
import Derived.Deep.MidRow
import Derived.OrdersHeld
set_option linter.unusedVariables false
set_option linter.unusedSimpArgs false
namespace Go.Proofs.YtjhmfljlclajnacDoor
open Go.ChangeShapes Go.WideShapes Go.ChangeAt Go.RowKit Wb

theorem own : ownKnob Tryd.prog.godebug = none := by kernel_rfl
theorem laidOut : laidOutB Tryd.prog = true := by kernel_rfl

/-- What reads as data before reads so behind the call, where only new blocks are written. -/
theorem trodAll_stays {H : Type} {enc : TypeId × Value → H} {W W' : World} {sp : Nat → Bool} (hb : Below W.heap.size W W') : ∀ (ts : List TypeId) (vs : List Value) (ds : List (DataW H)) (ps : List MemPlace),
    (∀ t ∈ ts, Tryd.prog.readableRec t = true ∧ t < Tryd.prog.types.size) → DataW.TrodAll enc Tryd.prog W 0 (fun _ => true) true ts vs ds ps →
    (∀ x ∈ ps, x.block < W.heap.size) → (∀ x ∈ ps, sp x.block = true) → DataW.TrodAll enc Tryd.prog W' 0 sp true ts vs ds ps
  | [], [], [], _, _, h, _, _ => h
  | t :: ts, v :: vs, d :: ds, ps, hr, h, hlt, hs => by
    obtain ⟨p, q, h1, h2, rfl⟩ := h
    refine ⟨p, q, ?_, ?_, rfl⟩
    · exact WideElems.Trod_stays laidOut (hr t (by simp)).1 (hr t (by simp)).2 h1 (fun x hx => hb.same (hlt x (by simp [hx]))) (fun x hx => hs x (by simp [hx]))
    · exact trodAll_stays hb ts vs ds q (fun t' ht => hr t' (by simp [ht])) h2 (fun x hx => hlt x (by simp [hx])) (fun x hx => hs x (by simp [hx]))
  | [], [], _ :: _, _, _, h, _, _ => h.elim
  | [], _ :: _, _, _, _, h, _, _ => h.elim
  | _ :: _, [], _, _, _, h, _, _ => h.elim
  | _ :: _, _ :: _, [], _, _, h, _, _ => h.elim

/-- What the statement asks behind a call that returned true. -/
theorem post_true {H : Type} {enc : TypeId × Value → H} {f : Func} {s : ChangeSpec} {apart fresh handsOn : Bool} {W W' : World} {args : Array Value} {ds gs : List (DataW H)} {before : List MemPlace}
    (hres : f.resultTypes = #[4]) (hvars : s.vars = []) (hspec : s.fn H (ds ++ gs) = { results := [.lit (.bool true)], args := ds })
    (hread : ∀ t ∈ f.params.toList, Tryd.prog.readableRec t = true ∧ t < Tryd.prog.types.size)
    (hW : DataW.Whole enc Tryd.prog f.params.toList s.vars apart W args.toList ds gs before) (hb : Below W.heap.size W W') :
    s.post enc Tryd.prog f apart fresh handsOn false W args (.bool true) W' := by
  have hlt := hW.lt
  have hW' := hW
  obtain ⟨p, q, hA, hV, rfl, hfz, hnd⟩ := hW
  rw [hvars] at hV
  obtain ⟨rfl, rfl⟩ := trodVars_none hV
  refine ⟨ds, [], _, [], p, [], hW', ?_, ?_, ?_, hb.frame _, fun h => by cases h⟩
  · rw [hspec, hres]
    exact trodAll_mk1 (shut_bool Tryd.underlying4 true)
  · rw [hspec]
    exact trodAll_stays hb _ _ _ _ hread hA (fun x hx => hlt x (by simp [hx])) (fun x hx => by simpa using hlt x (by simp [hx]))
  · rw [hspec, hvars]
    rfl

/-- The world of the witness: the settled one. -/
noncomputable def plainWorld (os : Os) : World := World.holding Tryd.prog os ⟨#[], #[], []⟩
end Go.Proofs.YtjhmfljlclajnacDoor

namespace Wb
open Go Go.ChangeShapes Go.WideShapes Go.ChangeAt Go.RowKit Go.Joins Go.Deep
theorem flat_at {α : Type} {f : α → List Value} {c : Nat} (hf : ∀ x, (f x).length = c) : ∀ (l : List α) (j : Nat) (u : Value), (l.flatMap f)[j]? = some u → ∃ i x r, l[i]? = some x ∧ j = i * c + r ∧ (f x)[r]? = some u ∧ r < c
  | [], j, u, h => by simp at h
  | y :: l, j, u, h => by
    rw [List.flatMap_cons] at h
    by_cases hj : j < c
    · rw [List.getElem?_append_left (by rw [hf]; exact hj)] at h
      exact ⟨0, y, j, rfl, by omega, h, hj⟩
    · rw [List.getElem?_append_right (by rw [hf]; omega), hf] at h
      obtain ⟨i, x, r, h1, h2, h3, h4⟩ := flat_at hf l _ u h
      exact ⟨i + 1, x, r, by simpa using h1, by rw [Nat.succ_mul]; omega, h3, h4⟩
section
variable {H : Type} {enc : TypeId × Value → H} {P : Program} {w : World} {base : Nat} {spare : Nat → Bool} {held : Bool}
theorem read_RL {α : Type} [Inhabited α] {f : α → List Value} {c : Nat} (hf : ∀ x, (f x).length = c) (h0 : 0 < c) {t e : TypeId} {fuel : Nat} {cs : List Value} {x : DataW H × List MemPlace} (ht : P.underlying t = some (.slice e)) (hc : P.cellsOf e = c)
    (hread : ∀ n cs' y, DataW.trod enc P w base spare held n e cs' = some y → cs'.length = c → ∃ x : α, cs' = f x) (h : DataW.trod enc P w base spare held fuel t cs = some x) :
    ∃ (v : Value) (l : List α), cs = [v] ∧ RL f w v l ∧ ((x.1 = .nil ∧ l = []) ∨ ∃ el sp, x.1 = .slice el sp ∧ el.length = l.length) := by
  rcases open_slice ht h with ⟨rfl, rfl⟩ | ⟨a, len, cap, m, n, D, Pl, rfl, hb, hl, hm, hmm, rfl, hx⟩
  · exact ⟨_, [], rfl, RL.nil f w, .inl ⟨rfl, rfl⟩⟩
  have hlm : len ≤ m := by rw [hmm]; split <;> omega
  have each : ∀ i, i < len → ∃ x : α, ∀ r, r < c → w.cell? (a.add (i * c + r)) = (f x)[r]? := by
    intro i hi
    obtain ⟨cs', h1, h2⟩ := hx i (by omega)
    rw [hc] at h1
    obtain ⟨_, hlen, hcell⟩ := World.cells?_some h1
    obtain ⟨x, rfl⟩ := hread _ _ _ h2 hlen
    exact ⟨x, fun r hr => by have := hcell r hr; rwa [add_add] at this⟩
  obtain ⟨X, hX⟩ := choose_lt each
  refine ⟨_, (List.range len).map X, rfl, ?_, .inr ⟨_, _, rfl, by simp⟩⟩
  refine ⟨some a, cap, by simp, by simpa using hl, hm, ?_⟩
  by_cases hlen : len = 0
  · subst hlen; left; rfl
  right
  have hspot : a.spot = none := by
    have h1 := hX 0 (by omega) 0 h0
    have h2 : (f (X 0))[0]? ≠ none := by rw [Ne, List.getElem?_eq_none_iff, hf]; omega
    obtain ⟨u, hu⟩ := Option.ne_none_iff_exists'.1 h2
    rw [hu] at h1
    simpa [Addr.add] using World.cell?_spot h1
  obtain ⟨b, off, spot⟩ := a
  obtain rfl : spot = none := hspot
  refine ⟨b, off, rfl, fun j u hj => ?_⟩
  obtain ⟨i, x, r, h1, rfl, h3, h4⟩ := flat_at hf _ _ _ hj
  rw [List.getElem?_map, Option.map_eq_some_iff] at h1
  obtain ⟨k, hk, rfl⟩ := h1
  obtain ⟨hkl, rfl⟩ := List.getElem?_eq_some_iff.1 hk
  simp only [List.length_range] at hkl
  simp only [List.getElem_range] at h3
  have := hX i hkl r h4
  rw [h3, Addr.add_lit] at this
  exact this
end
end Wb

namespace Go.Proofs.YtjhmfljlclajnacDoor
open Go.ChangeShapes Go.WideShapes Go.ChangeAt Go.RowKit Go.Joins Wb
set_option maxRecDepth 100000
section
variable {H : Type} {enc : TypeId × Value → H} {W : World} {base : Nat}
theorem read_ring {v : Value} {d : DataW H} {p : List MemPlace} (hv : Value.okWide Tryd.prog W .any base 57 v)
    (h : DataW.Trod enc Tryd.prog W 0 (fun _ => true) true 57 v d p) : ∃ r : Ring, v = r.val := by
  obtain ⟨c0, c1, y0, y1, m, rfl, rfl, rfl, hy0, hy1⟩ := open_agg2 Tryd.underlying57 (by kernel_rfl) (by kernel_rfl) hv h
  obtain ⟨a, e0, _⟩ := DataW.trod_int Tryd.underlying3 hy0
  obtain ⟨b, e1, _⟩ := DataW.trod_int Tryd.underlying3 hy1
  simp at e0 e1
  subst e0 e1
  exact ⟨⟨a, b⟩, rfl⟩
end
end Go.Proofs.YtjhmfljlclajnacDoor

namespace Wb
open Go Go.RowKit
structure Wr where
  at_ : Int
  text : ByteArray
structure Dsk where
  safe : List ByteArray
  writes : List Wr
instance : Inhabited Wr := ⟨⟨0, ⟨#[]⟩⟩⟩
instance : Inhabited ByteArray := ⟨⟨#[]⟩⟩
def wrC (x : Wr) : List Value := [.int .i64 x.at_, .string x.text]
theorem wrC_flat : Flat wrC 2 := ⟨fun _ => rfl, fun _ u hu => by simp [wrC] at hu; rcases hu with rfl | rfl <;> rfl, by decide⟩
def isAt (n : Int) : Bool := decide (0 ≤ n ∧ n < 37)
def ok32 (s : ByteArray) : Bool := decide (s.size = 32)
def wrOk (x : Wr) : Bool := isAt x.at_ && ok32 x.text
def goodD (d : Dsk) : Bool := decide (d.safe.length = 37) && decide (d.writes.length ≤ 200) && d.safe.all ok32 && d.writes.all wrOk
theorem goodD_iff (d : Dsk) : goodD d = true ↔ d.safe.length = 37 ∧ d.writes.length ≤ 200 ∧ d.safe.all ok32 = true ∧ d.writes.all wrOk = true := by
  unfold goodD; simp only [Bool.and_eq_true, decide_eq_true_iff, and_assoc]
/-- A disk by value, as it is read. -/
def RDisk (w : World) (v : Value) (d : Dsk) : Prop :=
  ∃ vs vw, v = .agg #[vs, vw] ∧ RL strC w vs d.safe ∧ RL wrC w vw d.writes ∧ d.safe.length ≤ 8796093022208 ∧ d.writes.length ≤ 5864062014805
theorem RDisk.below {w w' : World} {v : Value} {d : Dsk} (h : RDisk w v d) (hb : Below w.heap.size w w') : RDisk w' v d := by
  obtain ⟨vs, vw, hv, h1, h2, h3⟩ := h
  exact ⟨vs, vw, hv, h1.below hb, h2.below hb, h3⟩
/-- What IndexFunc says of a list of which all is well, or not. -/
def idxIs (b : Bool) (r : Int) : Prop := if b = true then r = -1 else 0 ≤ r
/-! ### All of a list, so far -/
theorem all_step {α : Type} {p : α → Bool} {l : List α} {k : Nat} (hk : k < l.length) (h : (l.take k).all p = true) (hp : p l[k] = true) : (l.take (k + 1)).all p = true := by
  rw [List.take_succ_eq_append_getElem hk, List.all_append, h]
  simp [hp]
theorem all_no {α : Type} {p : α → Bool} {l : List α} {k : Nat} (hk : k < l.length) (hp : p l[k] = false) : l.all p = false := by
  rw [← Bool.not_eq_true, List.all_eq_true]
  intro h
  rw [h _ (List.getElem_mem hk)] at hp
  exact Bool.noConfusion hp
theorem all_full {α : Type} {p : α → Bool} {l : List α} {k : Nat} (hk : k ≤ l.length) (hn : ¬ k < l.length) (h : (l.take k).all p = true) : l.all p = true := by
  rw [List.take_of_length_le (by omega)] at h; exact h
/-! ### Reading -/
/-- The last text that is written at a place. -/
def lastT (s : ByteArray) (n : Int) (ws : List Wr) : ByteArray := ws.foldl (fun r x => if x.at_ = n then x.text else r) s
theorem lastT_nil (s : ByteArray) (n : Int) : lastT s n [] = s := rfl
theorem lastT_step (s : ByteArray) (n : Int) (ws : List Wr) (x : Wr) : lastT s n (ws ++ [x]) = if x.at_ = n then x.text else lastT s n ws := by simp [lastT]
theorem lastT_hit (s : ByteArray) (n : Int) {ws : List Wr} {k : Nat} (hk : k < ws.length) (h : ws[k].at_ = n) : lastT s n (ws.take (k + 1)) = ws[k].text := by
  rw [List.take_succ_eq_append_getElem hk, lastT_step, if_pos h]
theorem lastT_miss (s : ByteArray) (n : Int) {ws : List Wr} {k : Nat} (hk : k < ws.length) (h : ws[k].at_ ≠ n) : lastT s n (ws.take (k + 1)) = lastT s n (ws.take k) := by
  rw [List.take_succ_eq_append_getElem hk, lastT_step, if_neg h]
def safeAt (d : Dsk) (n : Int) : ByteArray := d.safe.getD n.toNat ⟨#[]⟩
def readD (d : Dsk) (n : Int) : ByteArray := if goodD d = true ∧ isAt n = true then lastT (safeAt d n) n d.writes else ⟨#[]⟩
def readE (d : Dsk) (n : Int) : Int := if goodD d = true ∧ isAt n = true then 0 else 2
/-- All texts that a block has had since it was safe, that one first. -/
def afterL (s : ByteArray) (n : Int) (ws : List Wr) : List ByteArray := s :: (ws.filter (fun x => decide (x.at_ = n))).map (·.text)
theorem afterL_nil (s : ByteArray) (n : Int) : afterL s n [] = [s] := rfl
theorem afterL_step (s : ByteArray) (n : Int) (ws : List Wr) (x : Wr) : afterL s n (ws ++ [x]) = if x.at_ = n then afterL s n ws ++ [x.text] else afterL s n ws := by
  by_cases h : x.at_ = n <;> simp [afterL, h]
theorem afterL_len (s : ByteArray) (n : Int) (ws : List Wr) : (afterL s n ws).length ≤ ws.length + 1 := by
  simp only [afterL, List.length_cons, List.length_map]
  have := List.length_filter_le (fun x : Wr => decide (x.at_ = n)) ws
  omega
theorem afterL_hit (s : ByteArray) (n : Int) {ws : List Wr} {k : Nat} (hk : k < ws.length) (h : ws[k].at_ = n) : afterL s n (ws.take (k + 1)) = afterL s n (ws.take k) ++ [ws[k].text] := by
  rw [List.take_succ_eq_append_getElem hk, afterL_step, if_pos h]
theorem afterL_miss (s : ByteArray) (n : Int) {ws : List Wr} {k : Nat} (hk : k < ws.length) (h : ws[k].at_ ≠ n) : afterL s n (ws.take (k + 1)) = afterL s n (ws.take k) := by
  rw [List.take_succ_eq_append_getElem hk, afterL_step, if_neg h]
theorem afterL_ne (s : ByteArray) (n : Int) (ws : List Wr) : afterL s n ws ≠ [] := by simp [afterL]
theorem after_last (s : ByteArray) (n : Int) (ws : List Wr) : (afterL s n ws).getLast? = some (lastT s n ws) := by
  have key : ∀ k, k ≤ ws.length → (afterL s n (ws.take k)).getLast? = some (lastT s n (ws.take k)) := by
    intro k
    induction k with
    | zero => intro _; rfl
    | succ k ih =>
      intro hk
      by_cases h : ws[k].at_ = n
      · rw [afterL_hit s n hk h, lastT_hit s n hk h]; simp
      · rw [afterL_miss s n hk h, lastT_miss s n hk h]; exact ih (by omega)
  have := key ws.length (Nat.le_refl _)
  rwa [List.take_length] at this
/-! ### Writing -/
def putE (d : Dsk) (n : Int) (t : ByteArray) : Int := if ¬ (goodD d = true ∧ isAt n = true) then 2 else if t.size ≠ 32 then 1 else if 200 ≤ d.writes.length then 11 else 0
def putD (d : Dsk) (n : Int) (t : ByteArray) : Dsk := if putE d n t = 0 then ⟨d.safe, d.writes ++ [⟨n, t⟩]⟩ else d
end Wb

namespace Go.Proofs.YtjhmfljlclajnacDoor
open Go.ChangeShapes Go.WideShapes Go.ChangeAt Go.RowKit Go.Joins Wb
set_option maxRecDepth 100000
section
variable {H : Type} {enc : TypeId × Value → H} {W : World} {base : Nat}
theorem read_strs {fuel : Nat} {cs : List Value} {x : DataW H × List MemPlace} (h : DataW.trod enc Tryd.prog W 0 (fun _ => true) true fuel 22 cs = some x) :
    ∃ (v : Value) (l : List ByteArray), cs = [v] ∧ RL strC W v l ∧ ((x.1 = .nil ∧ l = []) ∨ ∃ el sp, x.1 = .slice el sp ∧ el.length = l.length) :=
  read_RL (c := 1) (fun _ => rfl) (by decide) Tryd.underlying22 (by kernel_rfl) (fun n cs' y hy _ => by
    obtain ⟨a, rfl, _⟩ := DataW.trod_string Tryd.underlying9 hy
    exact ⟨a, rfl⟩) h
theorem read_writes {fuel : Nat} {cs : List Value} {x : DataW H × List MemPlace} (h : DataW.trod enc Tryd.prog W 0 (fun _ => true) true fuel 23 cs = some x) :
    ∃ (v : Value) (l : List Wr), cs = [v] ∧ RL wrC W v l ∧ ((x.1 = .nil ∧ l = []) ∨ ∃ el sp, x.1 = .slice el sp ∧ el.length = l.length) :=
  read_RL (c := 2) (fun _ => rfl) (by decide) Tryd.underlying23 (by kernel_rfl) (fun n cs' y hy hlen => by
    obtain ⟨y0, y1, n, _, _, h0, h1⟩ := trod_struct2 Tryd.underlying66 hy
    match cs', hlen with
    | [u0, u1], _ =>
      have h0 : DataW.trod enc Tryd.prog W 0 (fun _ => true) true n 3 [u0] = some y0 := h0
      have h1 : DataW.trod enc Tryd.prog W 0 (fun _ => true) true n 9 [u1] = some y1 := h1
      obtain ⟨a, e0, _⟩ := DataW.trod_int Tryd.underlying3 h0
      obtain ⟨b, e1, _⟩ := DataW.trod_string Tryd.underlying9 h1
      simp at e0 e1
      subst e0 e1
      exact ⟨⟨a, b⟩, rfl⟩) h
theorem read_disk {v : Value} {d : DataW H} {p : List MemPlace} (hv : Value.okWide Tryd.prog W .any base 25 v)
    (h : DataW.Trod enc Tryd.prog W 0 (fun _ => true) true 25 v d p) (hw : (d.weights Tryd.prog 25).all (· ≤ reachBytes) = true) : ∃ m : Dsk, RDisk W v m := by
  obtain ⟨cs, rfl, hsz⟩ := okWide_struct Tryd.underlying25 hv
  obtain ⟨fuel, hf⟩ := h
  obtain ⟨xs, n, _, hx, hl, hlen, hg⟩ := DataW.trod_struct Tryd.underlying25 hf
  have hsz' : cs.size = 2 := hsz.trans (by kernel_rfl)
  obtain ⟨ls⟩ := cs
  match ls, hsz', xs, hlen with
  | [u0, u1], _, [y0, y1], _ =>
    have h0 : DataW.trod enc Tryd.prog W 0 (fun _ => true) true n 22 [u0] = some y0 := hg 0 _ rfl
    have h1 : DataW.trod enc Tryd.prog W 0 (fun _ => true) true n 23 [u1] = some y1 := hg 1 _ rfl
    obtain ⟨v0, safe, e0, r0, d0⟩ := read_strs h0
    obtain ⟨v1, writes, e1, r1, d1⟩ := read_writes h1
    simp only [List.cons.injEq, and_true] at e0 e1
    subst e0 e1
    simp only [Prod.mk.injEq] at hx
    obtain ⟨rfl, _⟩ := hx
    have hw2 : (DataW.weightsEach Tryd.prog [22, 23] [y0.1, y1.1]).all (· ≤ reachBytes) = true := by
      simpa [DataW.weights, Tryd.underlying25] using hw
    have b0 : Tryd.prog.bytesOf 9 = 16 := by kernel_rfl
    have b1 : Tryd.prog.bytesOf 66 = 24 := by kernel_rfl
    refine ⟨⟨safe, writes⟩, _, _, rfl, r0, r1, ?_, ?_⟩
    · rcases d0 with ⟨_, rfl⟩ | ⟨el, sp, hy, hel⟩
      · simp
      · have := sized_slice hw2 (j := 0) rfl (by simp [hy]; exact ⟨rfl, rfl⟩) Tryd.underlying22
        rw [b0] at this
        unfold reachBytes at this
        dsimp only
        omega
    · rcases d1 with ⟨_, rfl⟩ | ⟨el, sp, hy, hel⟩
      · simp
      · have := sized_slice hw2 (j := 1) rfl (by simp [hy]; exact ⟨rfl, rfl⟩) Tryd.underlying23
        rw [b1] at this
        unfold reachBytes at this
        dsimp only
        omega
end
end Go.Proofs.YtjhmfljlclajnacDoor

namespace Wb
open Go Go.RowKit
theorem wf_le {a : Int} (h : (Lit.int .i64 a).wf = true) : a ≤ 9223372036854775807 := by
  simp [Lit.wf, IntKind.min, IntKind.max, IntKind.signed, IntKind.bits] at h
  omega
theorem wf_ge {a : Int} (h : (Lit.int .i64 a).wf = true) : -9223372036854775808 ≤ a := by
  simp [Lit.wf, IntKind.min, IntKind.max, IntKind.signed, IntKind.bits] at h
  omega
end Wb

namespace Wb
open Go Go.RowKit
set_option linter.unusedVariables false
set_option linter.unusedSimpArgs false
section
variable {P : Program}
/-- copy of elements of c cells. -/
theorem run_copy_c (w : World) (dT sT ty elem : TypeId) (c : Nat) (b o dLen dCap : Nat) (a : Addr) (sLen sCap : Nat) (cs : List Value)
    (hu : P.underlying dT = some (.slice elem)) (hs : (P.info? elem).map (·.size) = some c) (hn : cs.length = Nat.min sLen dLen * c)
    (hsrc : ∀ j v, cs[j]? = some v → w.cell? (a.add j) = some v) (hc : ∀ j, j < cs.length → (w.cell? ⟨b, o + j, none⟩).isSome = true) (hf : ∀ j, j < cs.length → w.frozen? ⟨b, o + j, none⟩ = false) (h1 : ∀ v ∈ cs, v.oneCell' = true) :
    (Builtin.copy_ #[dT, sT] ty #[.slice (some ⟨b, o, none⟩) dLen dCap, .slice (some a) sLen sCap]).run P w = .ok (goInt (Nat.min sLen dLen : Nat)) (w.setCells b o cs) := by
  have hl := run_loadCells_list (P := P) w a cs hsrc
  have hst := run_storeCells_cells (P := P) b o cs 0 w (by simpa using hc) (by simpa using hf) h1
  rw [Nat.add_zero] at hst
  cases hq : P.info? elem with
  | none => simp [hq] at hs
  | some i =>
    have hi : i.size = c := by simpa [hq] using hs
    simp [Builtin.copy_, run_underlying hu, Builtin.lenOf, Builtin.firstCells, Go.sizeOf, typeInfo, hq, hi, ← hn, hl, hst]
/-- clear of elements of c cells: the cells zs. -/
theorem run_clear_c (w : World) (t e ty : TypeId) (z : Value) (ht : P.underlying t = some (.slice e)) (hv : ∀ w, (zeroValue e).run P w = .ok z w) (h1 : ∀ u ∈ z.cells, u.oneCell' = true) (h0 : 0 < z.cells.size) (b o n c : Nat) (hn : 0 < n)
    (hc : ∀ j, j < n * z.cells.size → (w.cell? ⟨b, o + j, none⟩).isSome = true) (hf : ∀ j, j < n * z.cells.size → w.frozen? ⟨b, o + j, none⟩ = false) :
    (Builtin.clear_ #[t] ty #[.slice (some ⟨b, o, none⟩) n c]).run P w = .ok (.tuple #[]) (w.setCells b o (Builtin.zeroCells z.cells n).toList) := by
  have hl : (Builtin.zeroCells z.cells n).toList.length = n * z.cells.size := by rw [Array.length_toList, size_zeroCells]
  have hst := run_storeCells_cells (P := P) b o (Builtin.zeroCells z.cells n).toList 0 w (by rw [hl]; simpa using hc) (by rw [hl]; simpa using hf) (by
    intro v hv'
    simp only [Builtin.zeroCells, Array.toList_map, List.mem_map] at hv'
    obtain ⟨i, _, rfl⟩ := hv'
    have hlt : i % z.cells.size < z.cells.size := Nat.mod_lt _ h0
    rw [getElem!_pos z.cells _ hlt]
    exact h1 _ (Array.getElem_mem hlt))
  simp only [Nat.add_zero] at hst
  obtain ⟨m, rfl⟩ : ∃ m, n = m + 1 := ⟨n - 1, by omega⟩
  simp [Builtin.clear_, run_underlying ht, hv, hst]
end
theorem Blk.sets {t : TypeId} {b : Nat} : ∀ (vs : List Value) (o : Nat) (w : World) (cur : Array Value), Blk w b cur t → o + vs.length ≤ cur.size → Blk (w.setCells b o vs) b (cur.toList.take o ++ vs ++ cur.toList.drop (o + vs.length)).toArray t
  | [], o, w, cur, h, _ => by simpa [World.setCells] using h
  | v :: r, o, w, cur, h, hl => by
    have h2 := Blk.sets r (o + 1) (w.setCell ⟨b, o, none⟩ v) _ (h.set o v) (by simp at hl ⊢; omega)
    have e := list_seg_step cur.toList o v r (by simp at hl ⊢; omega)
    rw [World.setCells]
    rw [Array.toList_setIfInBounds] at h2
    rw [e] at h2
    exact h2
theorem Below.sets {B : Nat} {w : World} (b : Nat) (hb : B ≤ b) : ∀ (vs : List Value) (o : Nat) (w' : World), Below B w w' → Below B w (w'.setCells b o vs)
  | [], _, _, h => h
  | v :: r, o, w', h => Below.sets b hb r (o + 1) _ (h.setCell hb v)
theorem Blk.sets_other {t : TypeId} {b g : Nat} {cur : Array Value} (hne : g ≠ b) : ∀ (vs : List Value) (o : Nat) (w : World), Blk w g cur t → Blk (w.setCells b o vs) g cur t
  | [], _, _, h => h
  | v :: r, o, w, h => Blk.sets_other hne r (o + 1) _ (h.set_other _ v hne)
theorem size_sets (b : Nat) : ∀ (vs : List Value) (o : Nat) (w : World), (w.setCells b o vs).heap.size = w.heap.size
  | [], _, _ => rfl
  | v :: r, o, w => by rw [World.setCells, size_sets b r]; simp
/-- Two pieces laid side by side. -/
theorem seg2 {α : Type} (L : List α) (a : Nat) (X D : List α) (h : a + X.length + D.length ≤ L.length) :
    (L.take (a + X.length) ++ D ++ L.drop (a + X.length + D.length)).take a ++ X ++ (L.take (a + X.length) ++ D ++ L.drop (a + X.length + D.length)).drop (a + X.length) = L.take a ++ X ++ D ++ L.drop (a + X.length + D.length) := by
  have h1 : (L.take (a + X.length)).length = a + X.length := by rw [List.length_take]; omega
  rw [List.append_assoc (L.take (a + X.length)), List.take_append_of_le_length (by omega), List.take_take, Nat.min_eq_left (by omega), List.drop_append_of_le_length (by omega), List.drop_of_length_le (by omega)]
  simp
theorem seg3 {α : Type} (L : List α) (a : Nat) (X D : List α) (h : a + X.length + D.length ≤ L.length) :
    (L.take a ++ X ++ L.drop (a + X.length)).take (a + X.length) ++ D ++ (L.take a ++ X ++ L.drop (a + X.length)).drop (a + X.length + D.length) = L.take a ++ X ++ D ++ L.drop (a + X.length + D.length) := by
  have h1 : (L.take a ++ X).length = a + X.length := by rw [List.length_append, List.length_take]; omega
  rw [List.take_append_of_le_length (by omega), List.take_of_length_le (by omega)]
  have h2 : (L.take a ++ X ++ L.drop (a + X.length)).drop (a + X.length + D.length) = L.drop (a + X.length + D.length) := by
    rw [List.drop_append, List.drop_of_length_le (by omega), List.nil_append, h1, List.drop_drop]
    congr 1
    omega
  rw [h2]
section
variable {α : Type} {f : α → List Value} {base : Nat} {e : TypeId} {c : Nat} {w w' : World} {v : Value} {l : List α}
theorem Own.ofRow {g cap : Nat} {cur : Array Value} (hF : Flat f c) (hb : base ≤ g) (hk : Blk w g cur e) (hn : l.length ≤ cap) (hc : cap ≤ maxLen) (hs : cur.size = cap * c) (ht : cur.toList.take (l.length * c) = l.flatMap f) : Own f base e c w (.slice (some ⟨g, 0, none⟩) l.length cap) l :=
  ⟨flat_len hF.len l, .inr ⟨g, cap, cur, rfl, hb, hk, hn, hc, hs, ht⟩⟩
theorem Own.row (h : Own f base e c w v l) (h0 : 0 < l.length) : ∃ g cap cur, v = .slice (some ⟨g, 0, none⟩) l.length cap ∧ base ≤ g ∧ Blk w g cur e ∧ l.length ≤ cap ∧ cap ≤ maxLen ∧ cur.size = cap * c ∧ cur.toList.take (l.length * c) = l.flatMap f := by
  obtain ⟨h1, h2⟩ := h
  rcases h2 with ⟨rfl, h3⟩ | ⟨g, cap, cur, rfl, hb, hg, hn, hc, hs, ht⟩
  · omega
  · exact ⟨g, cap, cur, rfl, hb, hg, hn, hc, hs, ht⟩
/-- A list that is owned, or nothing, wherever it lies. -/
def OwnE (f : α → List Value) (base : Nat) (e : TypeId) (c : Nat) (w : World) (v : Value) (l : List α) : Prop := Own f base e c w v l ∨ (l = [] ∧ ∃ a, v = .slice a 0 0)
theorem OwnE.reads (h : OwnE f base e c w v l) : RL f w v l := by
  rcases h with h | ⟨rfl, a, rfl⟩
  · exact h.reads
  · exact ⟨a, 0, rfl, Nat.le_refl _, by unfold maxLen; omega, .inl rfl⟩
theorem OwnE.below (h : OwnE f base e c w v l) (hb : Below w.heap.size w w') : OwnE f base e c w' v l := h.imp (fun h => h.below hb) id
theorem OwnE.mono (h : OwnE f base e c w v l) {b2 : Nat} (hb : b2 ≤ base) : OwnE f b2 e c w v l := h.imp (fun h => h.mono hb) id
theorem OwnE.setCell (h : OwnE f base e c w v l) {p : Addr} (hp : p.block < base) (u : Value) : OwnE f base e c (w.setCell p u) v l := h.imp (fun h => h.setCell hp u) id
theorem OwnE.form (h : OwnE f base e c w v l) : ∃ a cap, v = .slice a l.length cap := by
  obtain ⟨a, cap, hv, _, _⟩ := h.reads.form
  exact ⟨a, cap, hv⟩
theorem OwnE.row (h : OwnE f base e c w v l) (h0 : 0 < l.length) : Own f base e c w v l := by
  rcases h with h | ⟨rfl, _⟩
  · exact h
  · simp at h0
theorem Own.belowGrown {v : Value} (h : Own f base e c w v l) (hbase : base ≤ w.heap.size) (hg : w.grownBy w' v.ownBlock) : Below base w w' :=
  (Below.refl base w).grown hg hbase (fun k hk => (World.ownsRow.lt h k hk).1)
/-- append onto what is owned, or nothing. -/
theorem run_appE {P : Program} (w : World) (base : Nat) (t ty e : TypeId) (c bytes : Nat) (hF : Flat f c) (hT : Elem P t e c bytes) (v : Value) (l : List α) (hown : OwnE f base e c w v l)
    (vx : Value) (l2 : List α) (hs : RL f w vx l2) (hroom : (l.length + l2.length) * bytes ≤ 140737488355328) (h63 : l.length + l2.length ≤ maxLen) (hbase : base ≤ w.heap.size) :
    ∃ v' w', (Builtin.append_ #[t, t] ty #[v, vx]).run P w = .ok v' w' ∧ OwnE f base e c w' v' (l ++ l2) ∧ (l ++ l2 ≠ [] → Own f base e c w' v' (l ++ l2)) ∧ Below base w w' := by
  rcases hown with hown | ⟨rfl, a, rfl⟩
  · obtain ⟨v', w', h1, h2, h3⟩ := run_app (P := P) w base t ty e c bytes hF hT v l hown vx l2 hs hroom h63 hbase
    exact ⟨v', w', h1, .inl h2, fun _ => h2, hown.belowGrown hbase h3⟩
  · obtain ⟨ax, cx, rfl, hx1, hx2, hx3⟩ := hs
    obtain ⟨ht, i, z, hi, hz, hsz, hby, hzs⟩ := hT
    cases l2 with
    | nil =>
      refine ⟨.slice a 0 0, w, ?_, .inr ⟨rfl, a, rfl⟩, fun h => absurd rfl h, Below.refl _ _⟩
      cases a <;> cases ax <;> simp [Builtin.append_, run_underlying ht, Go.sizeOf, typeInfo, hi, Builtin.lenOf, Builtin.firstCells, loadCells, loadCellsFrom, storeCells]
    | cons y l2 =>
      rcases hx3 with hx3 | ⟨b, off, rfl, hc⟩
      · exfalso
        have hl := flat_len hF.len (y :: l2)
        have h4 : 0 < (y :: l2).length * c := Nat.mul_pos (by simp) hF.pos
        rw [hx3] at hl; rw [← hl] at h4
        simp at h4
      · have hl := flat_len hF.len (y :: l2)
        simp only [List.length_nil, Nat.zero_add] at hroom h63
        have hsrc : Src P i.size t (.slice (some ⟨b, off, none⟩) (y :: l2).length cx) (y :: l2).length ((y :: l2).flatMap f) w := Src.ofSlice w ht ⟨b, off, none⟩ _ _ _ (by rw [hl, hsz]) (fun j u hj => by rw [Addr.add_lit]; exact hc j u hj) (fun u hu => by obtain ⟨x, _, hx⟩ := List.mem_flatMap.1 hu; exact hF.one x u hx)
        have hold : (Builtin.firstCells i.size 0 (.slice a 0 0)).run P w.drew = .ok ([] : List Value).toArray w.drew := by
          cases a with
          | none => exact run_firstCells_none w.drew _ 0 0 0
          | some a => exact run_firstCells_some w.drew _ 0 a 0 0 [] (by simp) (fun j v hj => by simp at hj)
        have hgt : 0 < 0 + (y :: l2).length := by simp
        have hr := run_append_grow_src w t t ty e i z ht hi hz a 0 0 [] hold _ _ _ hsrc hgt (by unfold maxLen at h63; omega) (by rw [hby]; exact growslice_fits hgt (by simpa using hroom))
        simp only [Nat.zero_add, List.nil_append] at hr hgt ⊢
        have hge := grownCap_ge w (y :: l2).length 0 e
        have hcm := grownCap_le_maxLen w (y :: l2).length 0 e h63
        have ho : Own f base e c (w.drew.alloc (.cells (((y :: l2).flatMap f).toArray ++ Builtin.zeroCells z.cells (grownCap w (y :: l2).length 0 e - (y :: l2).length)) e)) (.slice (some ⟨w.heap.size, 0, none⟩) (y :: l2).length (grownCap w (y :: l2).length 0 e)) (y :: l2) := by
          refine Own.ofRow hF hbase (Blk.new w.drew _ e) hge hcm ?_ ?_
          · rw [Array.size_append, List.size_toArray, size_zeroCells, hl, hzs, ← Nat.add_mul]
            congr 1
            omega
          · rw [Array.toList_append]
            rw [← hl]
            exact List.take_left
        exact ⟨_, _, hr, .inl ho, fun _ => ho, (Below.refl base w).drew.alloc (by simpa using hbase) _⟩
end
end Wb

namespace Wb
open Go Go.RowKit
set_option linter.unusedVariables false
set_option linter.unusedSimpArgs false

/-- w' is w with new blocks; of the elder ones only those of S are written. -/
structure Mv (S : List Nat) (w w' : World) : Prop where
  os : w'.os = w.os
  tape : w'.tape = w.tape
  output : w'.output = w.output
  size : w.heap.size ≤ w'.heap.size
  block : ∀ k, k < w.heap.size → k ∉ S → w'.heap[k]? = w.heap[k]?
theorem Mv.refl (S : List Nat) (w : World) : Mv S w w := ⟨rfl, rfl, rfl, Nat.le_refl _, fun _ _ _ => rfl⟩
theorem Mv.below {w w' : World} (h : Mv [] w w') : Below w.heap.size w w' := ⟨h.os, h.tape, h.output, h.size, fun k hk => h.block k hk (by simp)⟩
theorem Mv.ofBelow {S : List Nat} {w w' : World} (h : Below w.heap.size w w') : Mv S w w' := ⟨h.os, h.tape, h.output, h.size, fun k hk _ => h.block k hk⟩
theorem Mv.ofGrown {g : Nat} {w w' : World} (h : w.grownBy w' (some g)) : Mv [g] w w' := ⟨h.os, h.tape, h.output, h.size, fun k hk hn => h.block k hk (by simpa using hn)⟩
theorem Mv.mono {S S' : List Nat} {w w' : World} (h : Mv S w w') (hs : ∀ k, k ∈ S → k ∈ S') : Mv S' w w' := ⟨h.os, h.tape, h.output, h.size, fun k hk hn => h.block k hk fun hh => hn (hs k hh)⟩
/-- One move behind another: what the second writes is of S or new to the first. -/
theorem Mv.then {S S' : List Nat} {a b c : World} (h : Mv S a b) (h2 : Mv S' b c) (hs : ∀ k, k ∈ S' → k ∈ S ∨ a.heap.size ≤ k) : Mv S a c :=
  ⟨h2.os.trans h.os, h2.tape.trans h.tape, h2.output.trans h.output, Nat.le_trans h.size h2.size, fun k hk hn =>
    (h2.block k (Nat.lt_of_lt_of_le hk h.size) fun hh => (hs k hh).elim hn (fun hh => by omega)).trans (h.block k hk hn)⟩
theorem Mv.trans {S : List Nat} {a b c : World} (h : Mv S a b) (h2 : Mv S b c) : Mv S a c := h.then h2 fun _ h => .inl h
theorem Mv.drew {S : List Nat} {a b : World} (h : Mv S a b) : Mv S a b.drew := ⟨h.os, h.tape, h.output, h.size, h.block⟩
theorem Mv.drewN {S : List Nat} {a b : World} (h : Mv S a b) (n : Nat) : Mv S a (b.drewN n) := ⟨h.os, h.tape, h.output, h.size, h.block⟩
theorem Mv.alloc (S : List Nat) (w : World) (o : Obj) : Mv S w (w.alloc o) := Mv.ofBelow (bal (b0 w) o)
theorem Mv.set (w : World) (p : Addr) (v : Value) : Mv [p.block] w (w.setCell p v) :=
  ⟨rfl, rfl, rfl, by simp, fun k _ hn => Below.heap_setCell w p v k (by simpa using hn)⟩
theorem Mv.sets (g : Nat) : ∀ (vs : List Value) (o : Nat) (w : World), Mv [g] w (w.setCells g o vs)
  | [], _, w => Mv.refl _ w
  | v :: r, o, w => (Mv.set w ⟨g, o, none⟩ v).trans (Mv.sets g r (o + 1) _)

/-- The block in which a slice lies. -/
def vblk : Value → Option Nat
  | .slice (some a) _ _ => some a.block
  | _ => none

theorem Sl.mv {S : List Nat} {w w' : World} {v : Value} {n : Nat} {cs : List Value} (h : Sl w v n cs) (hm : Mv S w w') (hn : cs = [] ∨ ∀ b, vblk v = some b → b ∉ S) : Sl w' v n cs := by
  obtain ⟨a, cap, hv, h1, h2, h3⟩ := h
  refine ⟨a, cap, hv, h1, h2, ?_⟩
  rcases hn with hn | hn
  · exact .inl hn
  rcases h3 with h3 | ⟨b, off, ha, hc⟩
  · exact .inl h3
  · refine .inr ⟨b, off, ha, fun j u hj => ?_⟩
    have h4 := hc j u hj
    have h5 := World.block_lt_of_cell? w _ h4
    rw [← h4]
    refine World.cell?_of_block (hm.block b h5 (hn b ?_))
    rw [hv, ha]; rfl
theorem Sl.lt {w : World} {v : Value} {n : Nat} {cs : List Value} (h : Sl w v n cs) : cs = [] ∨ ∀ b, vblk v = some b → b < w.heap.size := by
  obtain ⟨a, cap, hv, h1, h2, h3⟩ := h
  rcases h3 with h3 | ⟨b, off, ha, hc⟩
  · exact .inl h3
  · cases cs with
    | nil => exact .inl rfl
    | cons u r =>
      refine .inr fun b' hb => ?_
      rw [hv, ha] at hb
      cases hb
      exact World.block_lt_of_cell? w _ (hc 0 u rfl)

/-- A block that is known whole. -/
structure Ent where
  g : Nat
  cs : List Value
  t : TypeId
/-- A slice that is read. -/
structure Rd where
  v : Value
  n : Nat
  cs : List Value
def Rd.of {α : Type} (f : α → List Value) (v : Value) (l : List α) : Rd := ⟨v, l.length, l.flatMap f⟩
structure St (S : List Nat) (w0 w : World) (L : List Ent) (R : List Rd) : Prop where
  mv : Mv S w0 w
  nd : (L.map Ent.g).Nodup
  blk : ∀ e ∈ L, Blk w e.g e.cs.toArray e.t
  own : ∀ e ∈ L, e.g ∈ S ∨ w0.heap.size ≤ e.g
  rd : ∀ r ∈ R, Sl w r.v r.n r.cs ∧ (r.cs = [] ∨ ∀ b, vblk r.v = some b → ∀ e ∈ L, e.g ≠ b)

section
variable {S : List Nat} {w0 w w' : World} {L : List Ent} {R : List Rd}
theorem St.start (S : List Nat) (w0 : World) : St S w0 w0 [] [] := ⟨Mv.refl _ _, List.nodup_nil, (fun _ h => absurd h List.not_mem_nil), (fun _ h => absurd h List.not_mem_nil), (fun _ h => absurd h List.not_mem_nil)⟩
theorem St.drew (h : St S w0 w L R) : St S w0 w.drew L R := ⟨h.mv.drew, h.nd, h.blk, h.own, h.rd⟩
theorem St.drewN (h : St S w0 w L R) (n : Nat) : St S w0 (w.drewN n) L R := ⟨h.mv.drewN n, h.nd, h.blk, h.own, h.rd⟩
theorem St.below (h : St [] w0 w L R) : Below w0.heap.size w0 w := h.mv.below
theorem Blk.mv {b : Nat} {cs : Array Value} {t : TypeId} (h : Blk w b cs t) (hm : Mv S w w') (hn : b ∉ S) : Blk w' b cs t := (hm.block b h.lt hn).trans h
/-- A move that leaves the known blocks alone: a call that writes none of them. -/
theorem St.moved {S' : List Nat} (h : St S w0 w L R) (hm : Mv S' w w') (hs : ∀ k, k ∈ S' → k ∈ S ∨ w0.heap.size ≤ k) (hL : ∀ e ∈ L, e.g ∉ S') (hR : ∀ r ∈ R, r.cs = [] ∨ ∀ b, vblk r.v = some b → b ∉ S') : St S w0 w' L R :=
  ⟨h.mv.then hm hs, h.nd, fun e he => (h.blk e he).mv hm (hL e he), h.own, fun r hr => ⟨(h.rd r hr).1.mv hm (hR r hr), (h.rd r hr).2⟩⟩
/-- A call that only lays new blocks. -/
theorem St.call (h : St S w0 w L R) (hb : Below w.heap.size w w') : St S w0 w' L R :=
  h.moved (S' := []) (Mv.ofBelow hb) (fun _ h => absurd h List.not_mem_nil) (fun _ _ => List.not_mem_nil) (fun _ _ => .inr fun _ _ => List.not_mem_nil)
/-- A reading more: it lies in no known block. -/
theorem St.addR (h : St S w0 w L R) {v : Value} {n : Nat} {cs : List Value} (hv : Sl w v n cs) (hn : cs = [] ∨ ∀ b, vblk v = some b → ∀ e ∈ L, e.g ≠ b) : St S w0 w L (⟨v, n, cs⟩ :: R) :=
  ⟨h.mv, h.nd, h.blk, h.own, fun r hr => by
    rcases List.mem_cons.1 hr with rfl | hr
    · exact ⟨hv, hn⟩
    · exact h.rd r hr⟩
/-- A reading of the start. -/
theorem St.addR0 (h : St [] w0 w L R) {v : Value} {n : Nat} {cs : List Value} (hv : Sl w0 v n cs) : St [] w0 w L (⟨v, n, cs⟩ :: R) := by
  refine h.addR (hv.below h.below) ?_
  rcases hv.lt with hl | hl
  · exact .inl hl
  · refine .inr fun b hb e he heq => ?_
    have := hl b hb
    rcases h.own e he with ho | ho
    · cases ho
    · omega
/-- What a call hands back in a row of its own is read. -/
theorem St.addOwn (h : St S w0 w L R) (hb : Below w.heap.size w w') {α : Type} {f : α → List Value} {e : TypeId} {c : Nat} {v : Value} {l : List α} (ho : Own f w.heap.size e c w' v l) : St S w0 w' L (Rd.of f v l :: R) := by
  refine (h.call hb).addR ho.reads (.inr fun b hbv x hx heq => ?_)
  have hlt := (h.blk x hx).lt
  obtain ⟨_, h2⟩ := ho
  rcases h2 with ⟨rfl, _⟩ | ⟨g, cap, cur, rfl, hbg, _⟩
  · cases hbv
  · cases hbv
    have h3 : x.g = g := heq
    omega
theorem St.read (h : St S w0 w L R) {α : Type} {f : α → List Value} {v : Value} {l : List α} (hr : Rd.of f v l ∈ R) : RL f w v l := (h.rd _ hr).1
theorem St.at_ (h : St S w0 w L R) {g : Nat} {cs : List Value} {t : TypeId} (he : ⟨g, cs, t⟩ ∈ L) : Blk w g cs.toArray t := h.blk _ he
theorem St.cell (h : St S w0 w L R) {g : Nat} {cs : List Value} {t : TypeId} (he : ⟨g, cs, t⟩ ∈ L) (i : Nat) : w.cell? ⟨g, i, none⟩ = cs[i]? := by
  rw [(h.blk _ he).cell i]; simp
theorem St.free (h : St S w0 w L R) {g : Nat} {cs : List Value} {t : TypeId} (he : ⟨g, cs, t⟩ ∈ L) (i : Nat) : w.frozen? ⟨g, i, none⟩ = false := (h.blk _ he).free i
theorem St.k0 {g : Nat} {cs : List Value} {t : TypeId} (h : St S w0 w (⟨g, cs, t⟩ :: L) R) : Blk w g cs.toArray t := h.blk ⟨g, cs, t⟩ (by simp)
theorem St.k1 {e0 : Ent} {g : Nat} {cs : List Value} {t : TypeId} (h : St S w0 w (e0 :: ⟨g, cs, t⟩ :: L) R) : Blk w g cs.toArray t := h.blk ⟨g, cs, t⟩ (by simp)
theorem St.k2 {e0 e1 : Ent} {g : Nat} {cs : List Value} {t : TypeId} (h : St S w0 w (e0 :: e1 :: ⟨g, cs, t⟩ :: L) R) : Blk w g cs.toArray t := h.blk ⟨g, cs, t⟩ (by simp)
theorem St.k3 {e0 e1 e2 : Ent} {g : Nat} {cs : List Value} {t : TypeId} (h : St S w0 w (e0 :: e1 :: e2 :: ⟨g, cs, t⟩ :: L) R) : Blk w g cs.toArray t := h.blk ⟨g, cs, t⟩ (by simp)
theorem St.k4 {e0 e1 e2 e3 : Ent} {g : Nat} {cs : List Value} {t : TypeId} (h : St S w0 w (e0 :: e1 :: e2 :: e3 :: ⟨g, cs, t⟩ :: L) R) : Blk w g cs.toArray t := h.blk ⟨g, cs, t⟩ (by simp)
theorem St.r0 {α : Type} {f : α → List Value} {v : Value} {l : List α} (h : St S w0 w L (Rd.of f v l :: R)) : RL f w v l := h.read (v := v) (l := l) (f := f) (by simp)
theorem St.r1 {r0 : Rd} {α : Type} {f : α → List Value} {v : Value} {l : List α} (h : St S w0 w L (r0 :: Rd.of f v l :: R)) : RL f w v l := h.read (v := v) (l := l) (f := f) (by simp)
theorem St.r2 {r0 r1 : Rd} {α : Type} {f : α → List Value} {v : Value} {l : List α} (h : St S w0 w L (r0 :: r1 :: Rd.of f v l :: R)) : RL f w v l := h.read (v := v) (l := l) (f := f) (by simp)
/-- A new block. -/
theorem St.alloc (h : St S w0 w L R) (cs : List Value) (t : TypeId) : St S w0 (w.alloc (.cells cs.toArray t)) (⟨w.heap.size, cs, t⟩ :: L) R := by
  have h1 := h.call (bal (b0 w) (.cells cs.toArray t))
  refine ⟨h1.mv, ?_, fun e he => ?_, fun e he => ?_, fun r hr => ⟨(h1.rd r hr).1, ?_⟩⟩
  · rw [List.map_cons, List.nodup_cons]
    refine ⟨fun hm => ?_, h.nd⟩
    obtain ⟨e, he, heq⟩ := List.mem_map.1 hm
    have := (h.blk e he).lt
    simp only at heq; omega
  · rcases List.mem_cons.1 he with rfl | he
    · exact Blk.new w _ _
    · exact h1.blk e he
  · rcases List.mem_cons.1 he with rfl | he
    · exact .inr h.mv.size
    · exact h.own e he
  · rcases (h.rd r hr).1.lt with hl | hl
    · exact .inl hl
    · rcases (h.rd r hr).2 with h2 | h2
      · exact .inl h2
      · refine .inr fun b hb e he => ?_
        rcases List.mem_cons.1 he with rfl | he
        · have := hl b hb; show w.heap.size ≠ b; omega
        · exact h2 b hb e he
/-- The cells of a block, with others from a place on. -/
def upd : Nat → List Value → List Value → List Value
  | i + 1, vs, c :: cs => c :: upd i vs cs
  | 0, v :: vs, _ :: cs => v :: upd 0 vs cs
  | _, _, cs => cs
theorem upd_seg : ∀ (i : Nat) (vs cs : List Value), i + vs.length ≤ cs.length → upd i vs cs = cs.take i ++ vs ++ cs.drop (i + vs.length)
  | i + 1, vs, c :: cs, h => by
    have := upd_seg i vs cs (by simp at h; omega)
    simp only [upd, this, List.take_succ_cons, List.cons_append, List.cons.injEq, true_and]
    rw [show i + 1 + vs.length = (i + vs.length) + 1 by omega, List.drop_succ_cons]
  | 0, [], cs, h => by cases cs <;> simp [upd]
  | 0, v :: vs, c :: cs, h => by
    have := upd_seg 0 vs cs (by simp at h; omega)
    simp only [Nat.zero_add, List.take_zero, List.nil_append] at this
    simp [upd, this]
  | i + 1, vs, [], h => by simp at h
  | 0, v :: vs, [], h => by simp at h
theorem upd_len (i : Nat) (vs cs : List Value) (h : i + vs.length ≤ cs.length) : (upd i vs cs).length = cs.length := by
  rw [upd_seg i vs cs h]; simp; omega
/-- Cells of a known block are written. -/
theorem St.wrote (A B : List Ent) {g : Nat} {cs : List Value} {t : TypeId} (h : St S w0 w (A ++ ⟨g, cs, t⟩ :: B) R) (i : Nat) (vs : List Value) (hi : i + vs.length ≤ cs.length) : St S w0 (w.setCells g i vs) (A ++ ⟨g, upd i vs cs, t⟩ :: B) R := by
  have hm := Mv.sets g vs i w
  have hg : ⟨g, cs, t⟩ ∈ A ++ ⟨g, cs, t⟩ :: B := by simp
  have hnd := h.nd
  rw [List.map_append, List.map_cons, List.nodup_append] at hnd
  obtain ⟨n1, n2, n3⟩ := hnd
  rw [List.nodup_cons] at n2
  have hne : ∀ e, e ∈ A ∨ e ∈ B → e.g ≠ g := fun e he heq => by
    rcases he with he | he
    · exact n3 _ (List.mem_map_of_mem he) g (by simp) heq
    · have h5 := List.mem_map_of_mem (f := Ent.g) he
      rw [heq] at h5
      exact n2.1 h5
  have hsame : (A ++ ⟨g, upd i vs cs, t⟩ :: B).map Ent.g = (A ++ ⟨g, cs, t⟩ :: B).map Ent.g := by simp
  have hmem : ∀ e, e ∈ A ++ (⟨g, upd i vs cs, t⟩ : Ent) :: B → e = ⟨g, upd i vs cs, t⟩ ∨ ((e ∈ A ∨ e ∈ B) ∧ e ∈ A ++ (⟨g, cs, t⟩ : Ent) :: B) := fun e he => by
    simp only [List.mem_append, List.mem_cons] at he ⊢
    rcases he with he | he | he
    · exact .inr ⟨.inl he, .inl he⟩
    · exact .inl he
    · exact .inr ⟨.inr he, .inr (.inr he)⟩
  refine ⟨h.mv.then hm (fun k hk => ?_), by rw [hsame]; exact h.nd, fun e he => ?_, fun e he => ?_, fun r hr => ?_⟩
  · obtain rfl : k = g := by simpa using hk
    exact h.own _ hg
  · rcases hmem e he with rfl | ⟨he, he2⟩
    · have := Blk.sets (t := t) (b := g) vs i w cs.toArray (h.blk _ hg) (by simpa using hi)
      rw [← upd_seg i vs cs hi] at this
      exact this
    · exact Blk.sets_other (hne e he) vs i w (h.blk e he2)
  · rcases hmem e he with rfl | ⟨he, he2⟩
    · exact h.own ⟨g, cs, t⟩ hg
    · exact h.own e he2
  · obtain ⟨h1, h2⟩ := h.rd r hr
    rcases h2 with h2 | h2
    · exact ⟨h1.mv hm (.inl h2), .inl h2⟩
    · refine ⟨h1.mv hm (.inr fun b hb hbg => ?_), .inr fun b hb e he => ?_⟩
      · obtain rfl : b = g := by simpa using hbg
        exact h2 b hb _ hg rfl
      · rcases hmem e he with rfl | ⟨he, he2⟩
        · exact h2 b hb ⟨g, cs, t⟩ hg
        · exact h2 b hb e he2
/-- A call that writes one known block. -/
theorem St.calledOn (A B : List Ent) {g : Nat} {cs cs' : List Value} {t : TypeId} (h : St S w0 w (A ++ ⟨g, cs, t⟩ :: B) R) (hm : Mv [g] w w') (hk : Blk w' g cs'.toArray t) : St S w0 w' (A ++ ⟨g, cs', t⟩ :: B) R := by
  have hg : ⟨g, cs, t⟩ ∈ A ++ ⟨g, cs, t⟩ :: B := by simp
  have hnd := h.nd
  rw [List.map_append, List.map_cons, List.nodup_append] at hnd
  obtain ⟨n1, n2, n3⟩ := hnd
  rw [List.nodup_cons] at n2
  have hne : ∀ e, e ∈ A ∨ e ∈ B → e.g ≠ g := fun e he heq => by
    rcases he with he | he
    · exact n3 _ (List.mem_map_of_mem he) g (by simp) heq
    · have h5 := List.mem_map_of_mem (f := Ent.g) he
      rw [heq] at h5
      exact n2.1 h5
  have hsame : (A ++ ⟨g, cs', t⟩ :: B).map Ent.g = (A ++ ⟨g, cs, t⟩ :: B).map Ent.g := by simp
  have hmem : ∀ e, e ∈ A ++ (⟨g, cs', t⟩ : Ent) :: B → e = ⟨g, cs', t⟩ ∨ ((e ∈ A ∨ e ∈ B) ∧ e ∈ A ++ (⟨g, cs, t⟩ : Ent) :: B) := fun e he => by
    simp only [List.mem_append, List.mem_cons] at he ⊢
    rcases he with he | he | he
    · exact .inr ⟨.inl he, .inl he⟩
    · exact .inl he
    · exact .inr ⟨.inr he, .inr (.inr he)⟩
  refine ⟨h.mv.then hm (fun k hk => ?_), by rw [hsame]; exact h.nd, fun e he => ?_, fun e he => ?_, fun r hr => ?_⟩
  · obtain rfl : k = g := by simpa using hk
    exact h.own _ hg
  · rcases hmem e he with rfl | ⟨he, he2⟩
    · exact hk
    · exact (h.blk e he2).mv hm (by simpa using hne e he)
  · rcases hmem e he with rfl | ⟨he, he2⟩
    · exact h.own ⟨g, cs, t⟩ hg
    · exact h.own e he2
  · obtain ⟨h1, h2⟩ := h.rd r hr
    rcases h2 with h2 | h2
    · exact ⟨h1.mv hm (.inl h2), .inl h2⟩
    · refine ⟨h1.mv hm (.inr fun b hb hbg => ?_), .inr fun b hb e he => ?_⟩
      · obtain rfl : b = g := by simpa using hbg
        exact h2 b hb _ hg rfl
      · rcases hmem e he with rfl | ⟨he, he2⟩
        · exact h2 b hb ⟨g, cs, t⟩ hg
        · exact h2 b hb e he2
end

/-! ### What the table of types says -/
class AggT (P : Program) (T : TypeId) (n : outParam Nat) : Prop where
  row : ∃ d, P.underlying T = some d ∧ d.isRow = true
  size : (P.info? T).map (·.size) = some n
class OneT (P : Program) (T : TypeId) : Prop where
  row : ∃ d, P.underlying T = some d ∧ d.isRow = false
  size : (P.info? T).map (·.size) = some 1
class ZeroT (P : Program) (T : TypeId) (cs : outParam (List Value)) : Prop where
  zero : ((P.info? T).bind (·.zero)).map (·.cells) = some cs.toArray

/-- A cell of a list, to be found by evaluation. -/
def nth : List Value → Nat → Option Value
  | [], _ => none
  | v :: _, 0 => some v
  | _ :: r, n + 1 => nth r n
theorem nth_get : ∀ (l : List Value) (i : Nat), nth l i = l[i]?
  | [], i => by simp [nth]
  | v :: r, 0 => rfl
  | v :: r, i + 1 => by rw [List.getElem?_cons_succ]; exact nth_get r i
/-- What an operand holds, to be found by looking. -/
inductive EvR (a : Act) : Operand → Value → Prop
  | tmp {l : List Value} {d : List Deferred} {n : Nat} {v : Value} : a = ⟨l.toArray, d⟩ → nth l n = some v → EvR a (.tmp n) v
  | const (v : Value) : EvR a (.const v) v
theorem EvR.eval {a : Act} {x : Operand} {v : Value} (h : EvR a x v) : a.eval x = v := by
  cases h with
  | tmp ha hv =>
    subst ha
    rw [nth_get] at hv
    simp [Act.eval, hv]
  | const v => rfl

section
variable {P : Program} {ops : Array Oper} {Q : Exit → Act → World → Prop} {o : Oper} {rest : List Oper} {a : Act} {S : List Nat} {w0 w : World} {L : List Ent} {R : List Rd}
theorem run_loadOne {T : TypeId} [hT : OneT P T] {b i : Nat} {v : Value} (hc : w.cell? ⟨b, i, none⟩ = some v) : (loadVar T ⟨b, i, none⟩).run P w = .ok v w := by
  obtain ⟨⟨d, hu, hd⟩, _⟩ := hT
  have hagg : (isAgg T).run P w = .ok false w := by
    unfold isAgg
    rw [Sem.run_bind, run_underlying hu w]
    cases d <;> simp_all
  have hl : (load ⟨b, i, none⟩).run P w = .ok v w := by
    have := run_loadCells_list (P := P) w ⟨b, i, none⟩ [v] (fun j u hj => by
      cases j with
      | zero => simp at hj; subst hj; rw [Addr.add_mid]; exact hc
      | succ j => simp at hj)
    simp only [loadCells, List.length_cons, List.length_nil, loadCellsFrom, Sem.run_bind, Addr.add_mid, Nat.add_zero] at this
    cases hr : (load ⟨b, i, none⟩).run P w with
    | ok x w' =>
      rw [hr] at this
      simp only [Result.andThen_ok, Sem.run_pure] at this
      simp at this
      obtain ⟨h1, h2⟩ := this
      rw [h1, h2]
    | halt x w' => rw [hr] at this; simp at this
  simp only [loadVar, Sem.run_bind, hagg, Result.andThen_ok]
  exact hl
/-- Which operation stands first: for the walk, that tries the laws below at these alone. -/
def isLoad : Op → Bool
  | .load _ _ => true
  | _ => false
def isStore : Op → Bool
  | .store _ _ _ => true
  | _ => false
def isNew : Op → Bool
  | .alloc _ => true
  | .box _ _ => true
  | _ => false
def isMem : Op → Bool
  | .load _ _ => true
  | .store _ _ _ => true
  | .alloc _ => true
  | .box _ _ => true
  | _ => false
theorem at_mem (_ : isMem o.op = true) (h : wpList P ops Q (o :: rest) a w) : wpList P ops Q (o :: rest) a w := h
theorem at_load (_ : isLoad o.op = true) (h : wpList P ops Q (o :: rest) a w) : wpList P ops Q (o :: rest) a w := h
theorem at_store (_ : isStore o.op = true) (h : wpList P ops Q (o :: rest) a w) : wpList P ops Q (o :: rest) a w := h
theorem at_new (_ : isNew o.op = true) (h : wpList P ops Q (o :: rest) a w) : wpList P ops Q (o :: rest) a w := h
theorem at_load1 (T : TypeId) (x : Operand) (_ : o.op = .load T x) [OneT P T] (h : wpList P ops Q (o :: rest) a w) : wpList P ops Q (o :: rest) a w := h
theorem at_store1 (T : TypeId) (x y : Operand) (_ : o.op = .store T x y) [OneT P T] (h : wpList P ops Q (o :: rest) a w) : wpList P ops Q (o :: rest) a w := h
/-- One cell is read. -/
theorem m_load1 (hw : Region.wanted o (yielded ops a.tmps) = true) (T : TypeId) (x : Operand) (ho : o.op = .load T x) {g i : Nat} (hx : a.eval x = .pointer (some ⟨g, i, none⟩)) [OneT P T] (X : St S w0 w L R)
    {cs : List Value} {t : TypeId} (he : ⟨g, cs, t⟩ ∈ L) {v : Value} (hv : nth cs i = some v) (h : wpList P ops Q rest (a.put o.dst v) w) : wpList P ops Q (o :: rest) a w :=
  BigFrame.wpList_want hw fun K hK => by
    have hc : w.cell? ⟨g, i, none⟩ = some v := by rw [X.cell he, ← nth_get]; exact hv
    unfold Oper.wp execOp
    simp only [ho, hx, Instr.loadAt, Instr.sureAddr, Sem.run_bind, Sem.run_pure, Result.andThen_ok, run_loadOne (T := T) hc]
    exact hK _ _ h
/-- Cells are read, side by side. -/
theorem m_loadN (hw : Region.wanted o (yielded ops a.tmps) = true) (T : TypeId) (x : Operand) (ho : o.op = .load T x) {g i : Nat} (hx : a.eval x = .pointer (some ⟨g, i, none⟩)) {n : Nat} [hT : AggT P T n] (X : St S w0 w L R)
    {cs : List Value} {t : TypeId} (he : ⟨g, cs, t⟩ ∈ L) (hi : i + n ≤ cs.length) (h : wpList P ops Q rest (a.put o.dst (.agg ((cs.drop i).take n).toArray)) w) : wpList P ops Q (o :: rest) a w := by
  obtain ⟨⟨d, hu, hd⟩, hs⟩ := hT
  refine BigFrame.wpList_want hw fun K hK => wp_load_mid T x ho g i hx ((cs.drop i).take n) d (fun j v hj => ?_) hu hd (by rw [hs, List.length_take, List.length_drop]; congr 1; omega) (hK _ _ h)
  rw [X.cell he]
  rw [List.getElem?_take] at hj
  split at hj
  · rw [List.getElem?_drop] at hj; exact hj
  · cases hj
theorem oneAll {vs : List Value} (h : vs.all (·.oneCell') = true) : ∀ v ∈ vs, v.oneCell' = true := List.all_eq_true.1 h
theorem St.there (X : St S w0 w L R) {g : Nat} {cs : List Value} {t : TypeId} (he : ⟨g, cs, t⟩ ∈ L) {i n : Nat} (h : i + n ≤ cs.length) : w.there g i n := fun j hj => by
  refine ⟨?_, X.free he _⟩
  rw [X.cell he, List.getElem?_eq_getElem (by omega)]; rfl
/-- Cells are written, side by side: into the first, second, third, fourth known block. -/
theorem m_storeN (A B : List Ent) {g : Nat} {cs : List Value} {t : TypeId} (hw : Region.wanted o (yielded ops a.tmps) = true) (T : TypeId) (x y : Operand) (ho : o.op = .store T x y) {i : Nat} (hx : a.eval x = .pointer (some ⟨g, i, none⟩)) {n : Nat} [hT : AggT P T n]
    {vs : List Value} (hy : a.eval y = .agg vs.toArray) (X : St S w0 w (A ++ ⟨g, cs, t⟩ :: B) R) (hn : vs.length = n) (hi : i + vs.length ≤ cs.length) (h1 : vs.all (·.oneCell') = true)
    (h : ∀ w', St S w0 w' (A ++ ⟨g, upd i vs cs, t⟩ :: B) R → wpList P ops Q rest (a.put o.dst undef) w') : wpList P ops Q (o :: rest) a w :=
  BigFrame.wpList_want hw fun K hK => wp_store_mid T x y ho g i vs.toArray hx hy (X.there (cs := cs) (t := t) (by simp) (by simpa using hi)) (by rw [hT.size]; simp [hn]) (by simpa using h1) (hK _ _ (h _ (by simpa using X.wrote A B i vs hi)))
theorem run_storeOne {T : TypeId} [hT : OneT P T] {b i : Nat} {v : Value} (ht : w.there b i 1) (h1 : v.oneCell' = true) (hc : v.cells = #[v]) : (storeVar T ⟨b, i, none⟩ v).run P w = .ok () (w.setCells b i [v]) := by
  have := run_storeCells_cells (P := P) b i [v] 0 w (fun j hj => by simpa using (ht j (by simpa using hj)).1) (fun j hj => by simpa using (ht j (by simpa using hj)).2) (fun u hu => by simp at hu; subst hu; exact h1)
  have hi := hT.size
  cases hq : P.info? T with
  | none => simp [hq] at hi
  | some x =>
    have hs : x.size = 1 := by simpa [hq] using hi
    simp only [Nat.add_zero] at this
    simp [storeVar, Go.sizeOf, typeInfo, hq, hc, hs, this]
theorem m_store1 (A B : List Ent) {g : Nat} {cs : List Value} {t : TypeId} (hw : Region.wanted o (yielded ops a.tmps) = true) (T : TypeId) (x y : Operand) (ho : o.op = .store T x y) {i : Nat} (hx : a.eval x = .pointer (some ⟨g, i, none⟩)) [hT : OneT P T]
    {v : Value} (hy0 : EvR a y v) (X : St S w0 w (A ++ ⟨g, cs, t⟩ :: B) R) (hi : i < cs.length) (h1 : v.oneCell' = true) (hc : v.cells = #[v])
    (h : ∀ w', St S w0 w' (A ++ ⟨g, upd i [v] cs, t⟩ :: B) R → wpList P ops Q rest (a.put o.dst undef) w') : wpList P ops Q (o :: rest) a w :=
  BigFrame.wpList_want hw fun K hK => by
    have hy := hy0.eval
    have ht := X.there (g := g) (cs := cs) (t := t) (i := i) (n := 1) (by simp) (by omega)
    unfold Oper.wp execOp
    simp only [ho, hx, hy, Instr.storeAt, Instr.sureAddr, Sem.run_bind, Sem.run_pure, Result.andThen_ok, run_storeOne (T := T) ht h1 hc]
    exact hK _ _ (h _ (by simpa using X.wrote A B i [v] (show i + 1 ≤ cs.length from hi)))
/-- A new block of noughts. -/
theorem m_alloc (hw : Region.wanted o (yielded ops a.tmps) = true) (T : TypeId) (ho : o.op = .alloc T) {cs : List Value} [hT : ZeroT P T cs] (X : St S w0 w L R)
    (h : ∀ g w', St S w0 w' (⟨g, cs, T⟩ :: L) R → wpList P ops Q rest (a.put o.dst (.pointer (some ⟨g, 0, none⟩))) w') : wpList P ops Q (o :: rest) a w :=
  BigFrame.wpList_want hw fun K hK => by
    have hz := hT.zero
    cases hq : P.info? T with
    | none => simp [hq] at hz
    | some x =>
      cases hs : x.zero with
      | none => simp [hq, hs] at hz
      | some z =>
        have hc : z.cells = cs.toArray := by simpa [hq, hs] using hz
        unfold Oper.wp execOp
        simp only [ho, Instr.alloc, zeroValue, typeInfo, newVar, newRow, newObj, Sem.run_bind, Sem.run_pure, Result.andThen_ok]
        simp [hq, hs, hc]
        exact hK _ _ (h _ _ (X.alloc cs T))
/-- A value is laid into a new block. -/
theorem m_box (hw : Region.wanted o (yielded ops a.tmps) = true) (T : TypeId) (x : Operand) (ho : o.op = .box T x) {v : Value} (hx0 : EvR a x v) {cs : List Value} (hc : v.cells = cs.toArray) (X : St S w0 w L R)
    (h : ∀ g w', St S w0 w' (⟨g, cs, T⟩ :: L) R → wpList P ops Q rest (a.put o.dst (.pointer (some ⟨g, 0, none⟩))) w') : wpList P ops Q (o :: rest) a w :=
  BigFrame.wpList_want hw fun K hK => by
    have hx := hx0.eval
    unfold Oper.wp execOp
    simp only [ho, hx, hc, Instr.box, newVar, newRow, newObj, Sem.run_bind, Sem.run_pure, Result.andThen_ok]
    exact hK _ _ (h _ _ (X.alloc cs T))
theorem St.whole (X : St S w0 w L R) {T : TypeId} {n : Nat} [hT : AggT P T n] {g : Nat} {cs : List Value} {t : TypeId} (he : ⟨g, cs, t⟩ ∈ L) (hn : cs.length = n) : (loadVar T ⟨g, 0, none⟩).run P w = .ok (.agg cs.toArray) w := by
  obtain ⟨⟨d, hu, hd⟩, hs⟩ := hT
  exact run_loadVar_mid w g 0 T cs d (fun j v hj => by rw [Nat.zero_add, X.cell he]; exact hj) hu hd (by rw [hs, hn])
/-- A result that lies in a block. -/
theorem m_ret1 {fn : Func} {F : Ending → World → Prop} {p : Tmp} {T : TypeId} (hr : fn.results = #[.cell p T]) {g : Nat} (hp : EvR a (.tmp p) (.pointer (some ⟨g, 0, none⟩))) {n : Nat} [hT : AggT P T n] (X : St S w0 w L R)
    {cs : List Value} {t : TypeId} (he : ⟨g, cs, t⟩ ∈ L) (hn : cs.length = n) (hd : a.defers = []) (h : F (.returned (.agg cs.toArray)) w) : bodyPost P fn F .ret a w := by
  have hp' : a.tmps[p]?.getD undef = .pointer (some ⟨g, 0, none⟩) := by have := hp.eval; simpa [Act.eval] using this
  refine bodyPost_ret (v := .agg cs.toArray) ?_ hd h
  simp [results, hr, hp', asAddr, X.whole (T := T) he hn]
/-- A result that lies in a block, and one in a slot. -/
theorem m_ret2 {fn : Func} {F : Ending → World → Prop} {p q : Tmp} {T : TypeId} (hr : fn.results = #[.cell p T, .tmp q]) {g : Nat} (hp : EvR a (.tmp p) (.pointer (some ⟨g, 0, none⟩))) {v : Value} (hq : EvR a (.tmp q) v) {n : Nat} [hT : AggT P T n] (X : St S w0 w L R)
    {cs : List Value} {t : TypeId} (he : ⟨g, cs, t⟩ ∈ L) (hn : cs.length = n) (hd : a.defers = []) (h : F (.returned (.tuple #[.agg cs.toArray, v])) w) : bodyPost P fn F .ret a w := by
  have hp' : a.tmps[p]?.getD undef = .pointer (some ⟨g, 0, none⟩) := by have := hp.eval; simpa [Act.eval] using this
  have hq' : a.tmps[q]?.getD undef = v := by have := hq.eval; simpa [Act.eval] using this
  refine bodyPost_ret (v := .tuple #[.agg cs.toArray, v]) ?_ hd h
  simp [results, hr, hp', hq', asAddr, X.whole (T := T) he hn]
/-- A result that lies in a block, and two in slots. -/
theorem m_ret3 {fn : Func} {F : Ending → World → Prop} {p q r : Tmp} {T : TypeId} (hr : fn.results = #[.cell p T, .tmp q, .tmp r]) {g : Nat} (hp : EvR a (.tmp p) (.pointer (some ⟨g, 0, none⟩))) {v u : Value} (hq : EvR a (.tmp q) v) (hu : EvR a (.tmp r) u) {n : Nat} [hT : AggT P T n] (X : St S w0 w L R)
    {cs : List Value} {t : TypeId} (he : ⟨g, cs, t⟩ ∈ L) (hn : cs.length = n) (hd : a.defers = []) (h : F (.returned (.tuple #[.agg cs.toArray, v, u])) w) : bodyPost P fn F .ret a w := by
  have hp' : a.tmps[p]?.getD undef = .pointer (some ⟨g, 0, none⟩) := by have := hp.eval; simpa [Act.eval] using this
  have hq' : a.tmps[q]?.getD undef = v := by have := hq.eval; simpa [Act.eval] using this
  have hu' : a.tmps[r]?.getD undef = u := by have := hu.eval; simpa [Act.eval] using this
  refine bodyPost_ret (v := .tuple #[.agg cs.toArray, v, u]) ?_ hd h
  simp [results, hr, hp', hq', hu', asAddr, X.whole (T := T) he hn]
end
end Wb

namespace Wb
open Go Go.RowKit
set_option linter.unusedVariables false
set_option linter.unusedSimpArgs false
section
variable {P : Program} {ops : Array Oper} {Q : Exit → Act → World → Prop} {md : Region.Mode} {S : World → Prop} {brk : List Nat}

/-- Does operation b wait for operation i by itself? -/
def waitB (md : Region.Mode) (ops : Array Oper) (b i : Nat) : Bool := ((ops[b]?).map fun o => o.after.any fun e => Region.binds md e && e.on == i).getD true
/-- Whatever order comes from here on; every operation but those of 'brk' leaves S as it is. -/
def AnyS (P : Program) (md : Region.Mode) (ops : Array Oper) (Q : Exit → Act → World → Prop) (S : World → Prop) (brk : List Nat) : Nat → Array Bool → Act → World → Prop
  | 0, x, a, w => Region.ready md ops x = [] ∧ Q .normal a w
  | n + 1, x, a, w => (Region.ready md ops x = [] → Q .normal a w) ∧
      ∀ i ∈ Region.ready md ops x, wpOp P ops Q i (fun b v => (brk.contains i = false → S w → S v) ∧ AnyS P md ops Q S brk n (x.setIfInBounds i true) b v) a w
theorem AnyS.any : ∀ (n : Nat) (x : Array Bool) (a : Act) (w : World), AnyS P md ops Q S brk n x a w → wpAny P md ops Q n x a w
  | 0, _, _, _, h => h
  | n + 1, x, a, w, h => ⟨h.1, fun i hi => wpOp_mono (fun b v hh => AnyS.any n _ b v hh.2) (h.2 i hi)⟩
theorem waitB_spec {b i : Nat} {o : Oper} (ho : ops[b]? = some o) (h : waitB md ops b i = true) : ∃ e ∈ o.after, Region.binds md e = true ∧ e.on = i := by
  unfold waitB at h
  rw [ho] at h
  obtain ⟨e, he, hb⟩ := Array.any_eq_true'.1 h
  rw [Bool.and_eq_true, beq_iff_eq] at hb
  exact ⟨e, he, hb.1, hb.2⟩
/-- What is told of an operation that reads: all that it shares with those that may still come. -/
def Loose (md : Region.Mode) (ops : Array Oper) (x : Array Bool) (i : Nat) (o : Oper) : Prop :=
  ∀ j oj, ops[j]? = some oj → j ≠ i → x.getD j true = false → (∀ e ∈ oj.after, Region.binds md e = true → e.on ≠ i) → o.apart ops oj = true
theorem Loose.set {x : Array Bool} {i j : Nat} {o : Oper} (h : Loose md ops x i o) (hj : x.getD j true = false) : Loose md ops (x.setIfInBounds j true) i o := fun k ok hk hne hun hno => by
  by_cases e : j = k
  · subst e; exact h _ ok hk hne hj hno
  · exact h k ok hk hne (by rw [getD_set_ne true e] at hun; exact hun) hno
/-- An operation that reads may be taken first: where S holds, if all that may end S waits for it; or anywhere. -/
theorem AnyS.take {T : World → Prop} {i : Nat} {o : Oper} {v : Value} (hi : ops[i]? = some o) (hsel : ∀ (j : Nat) (o : Oper) cs b, ops[j]? = some o → o.op ≠ .select cs b)
    (hQ : ∀ c a w, Q (.panic c) (a.put o.dst v) w → Q (.panic c) a w) (hT : (T = S ∧ brk.all (fun b => waitB md ops b i) = true) ∨ ∀ w, T w) :
    ∀ (n : Nat) (x : Array Bool) (a : Act) (w : World), Loose md ops x i o → i ∈ Region.ready md ops x → YieldsIf P ops T o v a → T w →
      AnyS P md ops Q S brk n (x.setIfInBounds i true) (a.put o.dst v) w → AnyS P md ops Q S brk (n + 1) x a w
  | n, x, a, w, hl, hr, hy, hS, H => by
    have hne : Region.ready md ops x ≠ [] := fun e => by rw [e] at hr; cases hr
    refine ⟨fun e => absurd e hne, fun j hj => ?_⟩
    by_cases e : j = i
    · subst e
      exact hy.wpOp hi hS ⟨fun _ h => h, H⟩
    · have hj2 := ready_mono hj e
      obtain ⟨hju, oj, hoj, hall⟩ := mem_ready.1 hj
      have hiu := (mem_ready.1 hr).1
      have hnot : ∀ d ∈ oj.after, Region.binds md d = true → d.on ≠ i := fun d hd hb he => by
        have h1 := hall d hd hb
        rw [he] at h1
        rcases Nat.lt_or_ge i x.size with h3 | h3
        · simp [h3] at hiu h1; rw [hiu] at h1; cases h1
        · simp [Array.getElem?_eq_none h3] at h1
      have next : ∀ u, (brk.contains j = false → S w → S u) → T u := fun u hu => by
        rcases hT with ⟨rfl, hbrk⟩ | hT
        · refine hu ?_ hS
          cases hb : brk.contains j with
          | false => rfl
          | true =>
            have h1 := List.all_eq_true.1 hbrk j (by simpa using hb)
            obtain ⟨d, hd, hb1, hb2⟩ := waitB_spec hoj h1
            exact absurd hb2 (hnot d hd hb1)
        · exact hT u
      cases n with
      | zero => rw [H.1] at hj2; cases hj2
      | succ n =>
        have h1 := H.2 j hj2
        have h2 := wpOp_putIf hoj (hl j oj hoj e hju hnot) (fun cs b => hsel i o cs b hi) (fun cs b => hsel j oj cs b hoj) hQ hy h1
        refine wpOp_mono (fun b u hh => ?_) h2
        obtain ⟨hy2, hS2, H2⟩ := hh
        refine ⟨hS2, AnyS.take hi hsel hQ hT n _ b u (hl.set hju) (ready_mono hr (Ne.symm e)) hy2 (next u hS2) ?_⟩
        rw [Array.setIfInBounds_comm _ _ e]
        exact H2

/-! ### One order -/
/-- The operations, in one order: those of 'eff' do something, those of 'lds' read what S tells, the others yield in whatever world. -/
def Seq (P : Program) (ops : Array Oper) (Q : Exit → Act → World → Prop) (S : World → Prop) (brk eff lds : List Nat) : List Nat → Act → World → Prop
  | [], a, w => Q .normal a w
  | i :: r, a, w => if eff.contains i = true then wpOp P ops Q i (fun b v => (brk.contains i = false → S w → S v) ∧ Seq P ops Q S brk eff lds r b v) a w
      else if lds.contains i = true then ∃ o v, ops[i]? = some o ∧ YieldsIf P ops S o v a ∧ S w ∧ (∀ c a w, Q (.panic c) (a.put o.dst v) w → Q (.panic c) a w) ∧ Seq P ops Q S brk eff lds r (a.put o.dst v) w
      else ∃ o v, ops[i]? = some o ∧ YieldsIf P ops (fun _ => True) o v a ∧ (∀ c a w, Q (.panic c) (a.put o.dst v) w → Q (.panic c) a w) ∧ Seq P ops Q S brk eff lds r (a.put o.dst v) w
/-- Is it an order that stands for all? -/
def ordOk (md : Region.Mode) (ops : Array Oper) (brk eff lds : List Nat) : Array Bool → List Nat → Bool
  | x, [] => (Region.ready md ops x).isEmpty
  | x, i :: r => (if eff.contains i = true then Region.ready md ops x == [i] else (Region.ready md ops x).contains i && Region.free md ops x i && (!lds.contains i || brk.all (fun b => waitB md ops b i))) && ordOk md ops brk eff lds (x.setIfInBounds i true) r
theorem Seq.anyS {eff lds : List Nat} (hs : Region.noSelect ops = true) : ∀ (r : List Nat) (x : Array Bool) (a : Act) (w : World), ordOk md ops brk eff lds x r = true → Seq P ops Q S brk eff lds r a w → AnyS P md ops Q S brk r.length x a w
  | [], x, a, w, hk, h => ⟨List.isEmpty_iff.1 hk, h⟩
  | i :: r, x, a, w, hk, h => by
    unfold ordOk at hk
    rw [Bool.and_eq_true] at hk
    obtain ⟨h1, h2⟩ := hk
    unfold Seq at h
    split at h
    · rename_i he
      rw [if_pos he] at h1
      have hr : Region.ready md ops x = [i] := by simpa using h1
      refine ⟨fun e => (by rw [hr] at e; cases e), fun j hj => ?_⟩
      rw [hr] at hj
      obtain rfl : j = i := by simpa using hj
      exact wpOp_mono (fun b v hh => ⟨hh.1, Seq.anyS hs r _ b v h2 hh.2⟩) h
    · rename_i he
      rw [if_neg he, Bool.and_eq_true, Bool.and_eq_true] at h1
      obtain ⟨⟨h3, h4⟩, h5⟩ := h1
      split at h
      · rename_i hl
        rw [hl, Bool.not_true, Bool.false_or] at h5
        obtain ⟨o, v, hi, hy, hS, hQ, hn⟩ := h
        exact AnyS.take hi (Region.noSelect_spec hs) hQ (.inl ⟨rfl, h5⟩) r.length x a w (fun j oj hj hne hun hno => Region.free_spec hi h4 j oj hj hne hun hno) (by simpa using h3) hy hS (Seq.anyS hs r _ _ _ h2 hn)
      · obtain ⟨o, v, hi, hy, hQ, hn⟩ := h
        exact AnyS.take hi (Region.noSelect_spec hs) hQ (.inr fun _ => trivial) r.length x a w (fun j oj hj hne hun hno => Region.free_spec hi h4 j oj hj hne hun hno) (by simpa using h3) hy trivial (Seq.anyS hs r _ _ _ h2 hn)
/-- Blocks that are known, and what is read. -/
structure Kept (L0 : List Ent) (R0 : List Rd) (w : World) : Prop where
  l : ∀ e ∈ L0, Blk w e.g e.cs.toArray e.t
  r : ∀ x ∈ R0, Sl w x.v x.n x.cs
/-- THE BEGINNING. -/
theorem wp_seq {id : Nat} {a : Act} {w : World} (L : List Ent) (R : List Rd) (brk eff lds perm : List Nat) (hm : P.follows .mixedOrders = true) (hs : (Region.noSelect ops && (perm.length == ops.size && ordOk .any ops brk eff lds (Array.replicate ops.size false) perm)) = true)
    (h : Seq P ops Q (Kept L R) brk eff lds perm a w.drew) : (Code.region id ops true).wp P Q a w := by
  rw [Bool.and_eq_true, Bool.and_eq_true] at hs
  obtain ⟨h1, h2, h3⟩ := hs
  have := Seq.anyS h1 perm _ a _ h3 h
  rw [show perm.length = ops.size by simpa using h2] at this
  exact wp_region_any hm (AnyS.any _ _ _ _ this)
end

/-! ### The steps -/
def nthO : List Oper → Nat → Option Oper
  | [], _ => none
  | o :: _, 0 => some o
  | _ :: r, n + 1 => nthO r n
theorem nthO_get : ∀ (l : List Oper) (i : Nat), nthO l i = l[i]?
  | [], i => by simp [nthO]
  | v :: r, 0 => rfl
  | v :: r, i + 1 => by rw [List.getElem?_cons_succ]; exact nthO_get r i
def oAt (ops : Array Oper) (i : Nat) : Option Oper := nthO ops.toList i
theorem oAt_get {ops : Array Oper} {i : Nat} {o : Oper} (h : oAt ops i = some o) : ops[i]? = some o := by
  unfold oAt at h
  rw [nthO_get] at h
  simpa using h
section
variable {P : Program} {ops : Array Oper} {Q : Exit → Act → World → Prop} {L0 : List Ent} {brk eff lds : List Nat} {i : Nat} {r : List Nat} {o : Oper} {a : Act} {S : List Nat} {w0 w : World} {L : List Ent} {R : List Rd}
/-- What is kept is among what is known now. -/
structure Under (L0 : List Ent) (R0 : List Rd) (L : List Ent) (R : List Rd) : Prop where
  l : L0.Sublist L
  r : ∀ x ∈ R0, x ∈ R
theorem Under.up {R0 : List Rd} {x : Rd} (h : Under L0 R0 L R) : Under L0 R0 L (x :: R) := ⟨h.l, fun y hy => List.mem_cons_of_mem _ (h.r y hy)⟩
theorem Under.up3 {R0 : List Rd} {x y z : Rd} (h : Under L0 R0 L R) : Under L0 R0 L (x :: y :: z :: R) := h.up.up.up
abbrev SQ (P : Program) (ops : Array Oper) (Q : Exit → Act → World → Prop) (L0 : List Ent) (R0 : List Rd) (brk eff lds : List Nat) : List Nat → Act → World → Prop := Seq P ops Q (Kept L0 R0) brk eff lds
def NoLook (Q : Exit → Act → World → Prop) : Prop := ∀ c a (k : Tmp) v w, Q (.panic c) (a.put (some k) v) w → Q (.panic c) a w
theorem NoLook.all (h : NoLook Q) : ∀ c a d v w, Q (.panic c) (a.put d v) w → Q (.panic c) a w := fun c a d v w hh => by
  cases d with
  | none => exact hh
  | some k => exact h c a k v w hh
theorem q_start {id : Nat} (k : Nat) (brk eff lds perm : List Nat) (X : St S w0 w L R) (hm : P.follows .mixedOrders = true) (hs : (Region.noSelect ops && (perm.length == ops.size && ordOk .any ops brk eff lds (Array.replicate ops.size false) perm)) = true) (hQ : NoLook Q)
    (h : NoLook Q → St S w0 w.drew L R → Under (L.take k) R L R → SQ P ops Q (L.take k) R brk eff lds perm a w.drew) : (Code.region id ops true).wp P Q a w := wp_seq (L.take k) R brk eff lds perm hm hs (h hQ X.drew ⟨List.take_sublist _ _, fun _ h => h⟩)
theorem q_nil {R0 : List Rd} (h : Q .normal a w) : SQ P ops Q L0 R0 brk eff lds [] a w := h
theorem St.keeps {R0 : List Rd} (X : St S w0 w L R) (hL : Under L0 R0 L R) : Kept L0 R0 w := ⟨fun e he => X.blk e (hL.l.subset he), fun r hr => (X.rd r (hL.r r hr)).1⟩
theorem St.und {R0 : List Rd} (X : St S w0 w L R) (hL : Under L0 R0 L R) : Under L0 R0 L R := hL
variable {R0 : List Rd}
/-- An operation that does something. -/
theorem q_eff (hi : oAt ops i = some o) (he : eff.contains i = true) (hw : Region.wanted o (yielded ops a.tmps) = true)
    (h : ∀ K : Act → World → Prop, (∀ b v, (brk.contains i = false → Kept L0 R0 w → Kept L0 R0 v) → SQ P ops Q L0 R0 brk eff lds r b v → K b v) → o.wp P a w K Q) : SQ P ops Q L0 R0 brk eff lds (i :: r) a w := by
  unfold SQ Seq
  rw [if_pos he]
  unfold wpOp
  rw [oAt_get hi]
  simp only [hw, if_true]
  exact .inl (h _ fun b v h1 h2 => ⟨h1, h2⟩)
/-- One that reads what is known. -/
theorem q_read {v : Value} (hi : oAt ops i = some o) (he : (!eff.contains i && lds.contains i) = true) (hw : Region.wanted o (yielded ops a.tmps) = true) (X : St S w0 w L R) (hL : Under L0 R0 L R) (hQ : NoLook Q)
    (hv : ∀ w', Kept L0 R0 w' → (execOp a.eval o).run P w' = .ok (.value v) w') (h : SQ P ops Q L0 R0 brk eff lds r (a.put o.dst v) w) : SQ P ops Q L0 R0 brk eff lds (i :: r) a w := by
  rw [Bool.and_eq_true, Bool.not_eq_true'] at he
  unfold SQ Seq
  rw [if_neg (by rw [he.1]; decide), if_pos he.2]
  exact ⟨o, v, oAt_get hi, .inl ⟨hw, hv⟩, X.keeps hL, fun c a w hh => hQ.all c a o.dst v w hh, h⟩
/-- One whose guard says no. -/
theorem q_skip (hi : oAt ops i = some o) (he : (!eff.contains i && !lds.contains i) = true) (hw : Region.wanted o (yielded ops a.tmps) = false) (hQ : NoLook Q)
    (h : SQ P ops Q L0 R0 brk eff lds r (a.put o.dst undef) w) : SQ P ops Q L0 R0 brk eff lds (i :: r) a w := by
  rw [Bool.and_eq_true, Bool.not_eq_true', Bool.not_eq_true'] at he
  unfold SQ Seq
  rw [if_neg (by rw [he.1]; decide), if_neg (by rw [he.2]; decide)]
  exact ⟨o, undef, oAt_get hi, .inr ⟨hw, rfl⟩, fun c a w hh => hQ.all c a o.dst undef w hh, h⟩
/-- One that yields in whatever world. -/
theorem q_pure {v : Value} (hi : oAt ops i = some o) (he : (!eff.contains i && !lds.contains i) = true) (hw : Region.wanted o (yielded ops a.tmps) = true) (hQ : NoLook Q)
    (hv : ∀ w', (execOp a.eval o).run P w' = .ok (.value v) w') (h : SQ P ops Q L0 R0 brk eff lds r (a.put o.dst v) w) : SQ P ops Q L0 R0 brk eff lds (i :: r) a w := by
  rw [Bool.and_eq_true, Bool.not_eq_true', Bool.not_eq_true'] at he
  unfold SQ Seq
  rw [if_neg (by rw [he.1]; decide), if_neg (by rw [he.2]; decide)]
  exact ⟨o, v, oAt_get hi, .inl ⟨hw, fun w' _ => hv w'⟩, fun c a w hh => hQ.all c a o.dst v w hh, h⟩
theorem q_move {x : Operand} {v : Value} (hi : oAt ops i = some o) (ho : o.op = .move x) (hx : EvR a x v) (he : (!eff.contains i && !lds.contains i) = true) (hw : Region.wanted o (yielded ops a.tmps) = true) (hQ : NoLook Q)
    (h : SQ P ops Q L0 R0 brk eff lds r (a.put o.dst v) w) : SQ P ops Q L0 R0 brk eff lds (i :: r) a w :=
  q_pure hi he hw hQ (fun w' => by unfold execOp; simp only [ho, hx.eval]; rfl) h
theorem q_assign {x : Operand} {v : Value} (hi : oAt ops i = some o) (ho : o.op = .assign x) (hx : EvR a x v) (he : (!eff.contains i && !lds.contains i) = true) (hw : Region.wanted o (yielded ops a.tmps) = true) (hQ : NoLook Q)
    (h : SQ P ops Q L0 R0 brk eff lds r (a.put o.dst v) w) : SQ P ops Q L0 R0 brk eff lds (i :: r) a w :=
  q_pure hi he hw hQ (fun w' => by unfold execOp; simp only [ho, hx.eval]; rfl) h
theorem q_nilCheck {x : Operand} {p : Addr} (hi : oAt ops i = some o) (ho : o.op = .nilCheck x) (hx : EvR a x (.pointer (some p))) (he : (!eff.contains i && !lds.contains i) = true) (hw : Region.wanted o (yielded ops a.tmps) = true) (hQ : NoLook Q)
    (h : SQ P ops Q L0 R0 brk eff lds r (a.put o.dst (.pointer (some p))) w) : SQ P ops Q L0 R0 brk eff lds (i :: r) a w :=
  q_pure hi he hw hQ (fun w' => by unfold execOp; simp only [ho, hx.eval]; rfl) h
theorem q_extract {x : Operand} {k : Nat} {vs : List Value} {v : Value} (hi : oAt ops i = some o) (ho : o.op = .extract x k) (hx : EvR a x (.tuple vs.toArray)) (hv : nth vs k = some v) (he : (!eff.contains i && !lds.contains i) = true) (hw : Region.wanted o (yielded ops a.tmps) = true) (hQ : NoLook Q)
    (h : SQ P ops Q L0 R0 brk eff lds r (a.put o.dst v) w) : SQ P ops Q L0 R0 brk eff lds (i :: r) a w :=
  q_pure hi he hw hQ (fun w' => by
    rw [nth_get] at hv
    unfold execOp; simp only [ho, hx.eval, Instr.extract]; simp [hv]) h
/-- Where a field lies. -/
class FieldT (P : Program) (T : TypeId) (k : Nat) (d : outParam Nat) : Prop where
  at_ : ∀ (g i : Nat) (w : World), (Instr.fieldAt T (.pointer (some ⟨g, i, none⟩)) k).run P w = .ok (.pointer (some ⟨g, i + d, none⟩)) w
theorem q_field {x : Operand} {T : TypeId} {k d g n : Nat} (hi : oAt ops i = some o) (ho : o.op = .fieldAddr T x k) (hx : EvR a x (.pointer (some ⟨g, n, none⟩))) [hF : FieldT P T k d] (he : (!eff.contains i && !lds.contains i) = true) (hw : Region.wanted o (yielded ops a.tmps) = true) (hQ : NoLook Q)
    (h : SQ P ops Q L0 R0 brk eff lds r (a.put o.dst (.pointer (some ⟨g, n + d, none⟩))) w) : SQ P ops Q L0 R0 brk eff lds (i :: r) a w :=
  q_pure hi he hw hQ (fun w' => by unfold execOp; simp only [ho, hx.eval, Sem.run_bind, hF.at_, Result.andThen_ok, Sem.run_pure]) h
theorem q_load1 {x : Operand} {T : TypeId} {g n : Nat} (hi : oAt ops i = some o) (ho : o.op = .load T x) (hx : EvR a x (.pointer (some ⟨g, n, none⟩))) [OneT P T] {cs : List Value} {t : TypeId} (hm : ⟨g, cs, t⟩ ∈ L0) {v : Value} (hv : nth cs n = some v)
    (he : (!eff.contains i && lds.contains i) = true) (hw : Region.wanted o (yielded ops a.tmps) = true) (X : St S w0 w L R) (hL : Under L0 R0 L R) (hQ : NoLook Q)
    (h : SQ P ops Q L0 R0 brk eff lds r (a.put o.dst v) w) : SQ P ops Q L0 R0 brk eff lds (i :: r) a w :=
  q_read hi he hw X hL hQ (fun w' hw' => by
    have hc : w'.cell? ⟨g, n, none⟩ = some v := by rw [(hw'.l _ hm).cell n, ← hv, nth_get]; simp
    unfold execOp
    simp only [ho, hx.eval, Instr.loadAt, Instr.sureAddr, Sem.run_bind, Sem.run_pure, Result.andThen_ok, run_loadOne (T := T) hc]) h
theorem q_loadN {x : Operand} {T : TypeId} {g n m : Nat} (hi : oAt ops i = some o) (ho : o.op = .load T x) (hx : EvR a x (.pointer (some ⟨g, n, none⟩))) [hT : AggT P T m] {cs : List Value} {t : TypeId} (hm : ⟨g, cs, t⟩ ∈ L0) (hn : n + m ≤ cs.length)
    (he : (!eff.contains i && lds.contains i) = true) (hw : Region.wanted o (yielded ops a.tmps) = true) (X : St S w0 w L R) (hL : Under L0 R0 L R) (hQ : NoLook Q)
    (h : SQ P ops Q L0 R0 brk eff lds r (a.put o.dst (.agg ((cs.drop n).take m).toArray)) w) : SQ P ops Q L0 R0 brk eff lds (i :: r) a w :=
  q_read hi he hw X hL hQ (fun w' hw' => by
    obtain ⟨⟨d, hu, hd⟩, hs⟩ := hT
    have hr : (loadVar T ⟨g, n, none⟩).run P w' = .ok (.agg ((cs.drop n).take m).toArray) w' := run_loadVar_mid w' g n T ((cs.drop n).take m) d (fun j v hj => by
      rw [(hw'.l _ hm).cell]
      rw [List.getElem?_take] at hj
      split at hj
      · rw [List.getElem?_drop] at hj; simpa using hj
      · cases hj) hu hd (by rw [hs, List.length_take, List.length_drop]; congr 1; omega)
    unfold execOp
    simp only [ho, hx.eval, Instr.loadAt, Instr.sureAddr, Sem.run_bind, Sem.run_pure, Result.andThen_ok, hr]) h
theorem flat_nth {α : Type} {f : α → List Value} {c : Nat} (hF : ∀ x, (f x).length = c) : ∀ {l : List α} {k d : Nat} (hk : k < l.length), d < c → (l.flatMap f)[k * c + d]? = (f l[k])[d]?
  | x :: l, 0, d, hk, hd => by
    rw [List.flatMap_cons, Nat.zero_mul, Nat.zero_add, List.getElem?_append_left (by rw [hF]; exact hd)]; rfl
  | x :: l, k + 1, d, hk, hd => by
    rw [List.flatMap_cons, List.getElem?_append_right (by rw [hF, Nat.add_mul]; omega), hF, show (k + 1) * c + d - c = k * c + d by rw [Nat.add_mul]; omega]
    exact flat_nth hF (l := l) (Nat.lt_of_succ_lt_succ hk) hd
theorem Sl.elem {α : Type} {f : α → List Value} {c : Nat} (hF : ∀ x, (f x).length = c) {w : World} {b off cap n k d : Nat} {l : List α} (h : Sl w (.slice (some ⟨b, off, none⟩) n cap) l.length (l.flatMap f)) (hk : k < l.length) (hd : d < c) : w.cell? ⟨b, off + k * c + d, none⟩ = (f l[k])[d]? := by
  have hfn := flat_nth hF (d := d) hk hd
  have hlt : d < (f l[k]).length := by rw [hF]; exact hd
  rw [List.getElem?_eq_getElem hlt] at hfn ⊢
  obtain ⟨a, cap', hv, h1, h2, h3⟩ := h
  rcases h3 with h3 | ⟨b', off', ha, hc⟩
  · rw [h3] at hfn; cases hfn
  · cases hv
    cases ha
    rw [Nat.add_assoc]
    exact hc _ _ hfn
/-- A cell of an element of a list that is read. -/
theorem q_elem1 {α : Type} {f : α → List Value} {c : Nat} (hF : ∀ x, (f x).length = c) {l : List α} {k : Nat} (hk : k < l.length) (d : Nat) {x : Operand} {T : TypeId} {b off cap n : Nat} (hi : oAt ops i = some o) (ho : o.op = .load T x) (hm : Rd.of f (.slice (some ⟨b, off, none⟩) n cap) l ∈ R0) (hx : EvR a x (.pointer (some ⟨b, off + k * c + d, none⟩))) [OneT P T] (hd : d < c) {v : Value} (hv : nth (f l[k]) d = some v)
    (he : (!eff.contains i && lds.contains i) = true) (hw : Region.wanted o (yielded ops a.tmps) = true) (X : St S w0 w L R) (hL : Under L0 R0 L R) (hQ : NoLook Q)
    (h : SQ P ops Q L0 R0 brk eff lds r (a.put o.dst v) w) : SQ P ops Q L0 R0 brk eff lds (i :: r) a w :=
  q_read hi he hw X hL hQ (fun w' hw' => by
    have hc : w'.cell? ⟨b, off + k * c + d, none⟩ = some v := by
      rw [Sl.elem hF (hw'.r _ hm) hk hd, ← hv, nth_get]
    unfold execOp
    simp only [ho, hx.eval, Instr.loadAt, Instr.sureAddr, Sem.run_bind, Sem.run_pure, Result.andThen_ok, run_loadOne (T := T) hc]) h
/-- An element of a list that is read, whole. -/
theorem q_elemN {α : Type} {f : α → List Value} {c : Nat} (hF : ∀ x, (f x).length = c) {l : List α} {k : Nat} (hk : k < l.length) {x : Operand} {T : TypeId} {b off cap n : Nat} (hi : oAt ops i = some o) (ho : o.op = .load T x) (hm : Rd.of f (.slice (some ⟨b, off, none⟩) n cap) l ∈ R0) (hx : EvR a x (.pointer (some ⟨b, off + k * c, none⟩))) [hT : AggT P T c]
    (he : (!eff.contains i && lds.contains i) = true) (hw : Region.wanted o (yielded ops a.tmps) = true) (X : St S w0 w L R) (hL : Under L0 R0 L R) (hQ : NoLook Q)
    (h : SQ P ops Q L0 R0 brk eff lds r (a.put o.dst (.agg (f l[k]).toArray)) w) : SQ P ops Q L0 R0 brk eff lds (i :: r) a w :=
  q_read hi he hw X hL hQ (fun w' hw' => by
    obtain ⟨⟨d, hu, hd⟩, hs⟩ := hT
    have hr : (loadVar T ⟨b, off + k * c, none⟩).run P w' = .ok (.agg (f l[k]).toArray) w' := run_loadVar_mid w' b (off + k * c) T (f l[k]) d (fun j v hj => by
      have hlt : j < c := by rw [← hF l[k]]; exact (List.getElem?_eq_some_iff.1 hj).1
      rw [Sl.elem hF (hw'.r _ hm) hk hlt]; exact hj) hu hd (by rw [hs, hF])
    unfold execOp
    simp only [ho, hx.eval, Instr.loadAt, Instr.sureAddr, Sem.run_bind, Sem.run_pure, Result.andThen_ok, hr]) h
/-- A call of a Go function. -/
theorem q_call (f : FuncId) (xs : List Operand) (ts : Array TypeId) (hi : oAt ops i = some o) (ho : o.op = .call { callee := .value (.func f), args := xs.toArray, argTypes := ts }) (args : Array Value) (ha : (xs.map a.eval).toArray = args)
    (hb : ∃ fn c, P.funcs[f]? = some fn ∧ (fn.name == "runtime.NumGoroutine") = false ∧ fn.body = some c) (he : eff.contains i = true) (hw : Region.wanted o (yielded ops a.tmps) = true) {F : Ending → World → Prop}
    (h : Calls P f args w F) (hK : ∀ e w', F e w' → ∃ v, e = .returned v ∧ (brk.contains i = false → Kept L0 R0 w → Kept L0 R0 w') ∧ SQ P ops Q L0 R0 brk eff lds r (a.put o.dst v) w') : SQ P ops Q L0 R0 brk eff lds (i :: r) a w :=
  q_eff hi he hw fun K hk => by
    subst ha
    obtain ⟨fn, c, h1, h2, h3⟩ := hb
    have hr : (execOp a.eval o).run P w = .ok (.enter f (xs.map a.eval).toArray) w := by
      unfold execOp
      simp [ho, resolve, invoke, Deferred.ofValue, Act.eval, run_enter h1 h2 h3]
    unfold Oper.wp
    rw [hr, Oper.upon_enter]
    exact h.mono fun e w' hF => by obtain ⟨v, rfl, hs, hq⟩ := hK e w' hF; exact hk _ _ hs hq
theorem q_store1 (A B : List Ent) {x y : Operand} {T : TypeId} {g n : Nat} {cs : List Value} {t : TypeId} (hi : oAt ops i = some o) (ho : o.op = .store T x y) (hx : EvR a x (.pointer (some ⟨g, n, none⟩))) [OneT P T] {v : Value} (hy : EvR a y v)
    (X : St S w0 w (A ++ ⟨g, cs, t⟩ :: B) R) (hn : n < cs.length) (h1 : v.oneCell' = true) (hc : v.cells = #[v]) (he : eff.contains i = true) (hw : Region.wanted o (yielded ops a.tmps) = true)
    (h : ∀ w', St S w0 w' (A ++ ⟨g, upd n [v] cs, t⟩ :: B) R → (brk.contains i = false → Kept L0 R0 w → Kept L0 R0 w') ∧ SQ P ops Q L0 R0 brk eff lds r (a.put o.dst undef) w') : SQ P ops Q L0 R0 brk eff lds (i :: r) a w :=
  q_eff hi he hw fun K hk => by
    have ht := X.there (g := g) (cs := cs) (t := t) (i := n) (n := 1) (by simp) (by omega)
    obtain ⟨h2, h3⟩ := h _ (by simpa using X.wrote A B n [v] (show n + 1 ≤ cs.length from hn))
    unfold Oper.wp execOp
    simp only [ho, hx.eval, hy.eval, Instr.storeAt, Instr.sureAddr, Sem.run_bind, Sem.run_pure, Result.andThen_ok, run_storeOne (T := T) ht h1 hc]
    exact hk _ _ h2 h3
theorem q_storeN (A B : List Ent) {x y : Operand} {T : TypeId} {g n m : Nat} {cs : List Value} {t : TypeId} (hi : oAt ops i = some o) (ho : o.op = .store T x y) (hx : EvR a x (.pointer (some ⟨g, n, none⟩))) [hT : AggT P T m] {vs : List Value} (hy : a.eval y = .agg vs.toArray)
    (X : St S w0 w (A ++ ⟨g, cs, t⟩ :: B) R) (hm : vs.length = m) (hn : n + vs.length ≤ cs.length) (h1 : vs.all (·.oneCell') = true) (he : eff.contains i = true) (hw : Region.wanted o (yielded ops a.tmps) = true)
    (h : ∀ w', St S w0 w' (A ++ ⟨g, upd n vs cs, t⟩ :: B) R → (brk.contains i = false → Kept L0 R0 w → Kept L0 R0 w') ∧ SQ P ops Q L0 R0 brk eff lds r (a.put o.dst undef) w') : SQ P ops Q L0 R0 brk eff lds (i :: r) a w :=
  q_eff hi he hw fun K hk => by
    obtain ⟨h2, h3⟩ := h _ (by simpa using X.wrote A B n vs hn)
    exact wp_store_mid T x y ho g n vs.toArray hx.eval hy (X.there (cs := cs) (t := t) (by simp) (by simpa using hn)) (by rw [hT.size]; simp [hm]) (by simpa using h1) (hk _ _ (by simpa using h2) (by simpa using h3))
/-- A new block of noughts. -/
theorem q_alloc {T : TypeId} (hi : oAt ops i = some o) (ho : o.op = .alloc T) {cs : List Value} [hT : ZeroT P T cs] (X : St S w0 w L R) (hL : Under L0 R0 L R) (he : eff.contains i = true) (hw : Region.wanted o (yielded ops a.tmps) = true)
    (h : ∀ g w', St S w0 w' (⟨g, cs, T⟩ :: L) R → Under L0 R0 (⟨g, cs, T⟩ :: L) R → SQ P ops Q L0 R0 brk eff lds r (a.put o.dst (.pointer (some ⟨g, 0, none⟩))) w') : SQ P ops Q L0 R0 brk eff lds (i :: r) a w :=
  q_eff hi he hw fun K hk => by
    have hz := hT.zero
    cases hq : P.info? T with
    | none => simp [hq] at hz
    | some x =>
      cases hs : x.zero with
      | none => simp [hq, hs] at hz
      | some z =>
        have hc : z.cells = cs.toArray := by simpa [hq, hs] using hz
        have hL' : Under L0 R0 ((⟨w.heap.size, cs, T⟩ : Ent) :: L) R := ⟨hL.l.cons _, hL.r⟩
        unfold Oper.wp execOp
        simp only [ho, Instr.alloc, zeroValue, typeInfo, newVar, newRow, newObj, Sem.run_bind, Sem.run_pure, Result.andThen_ok]
        simp [hq, hs, hc]
        exact hk _ _ (fun _ _ => (X.alloc cs T).keeps hL') (h _ _ (X.alloc cs T) hL')
end
end Wb
