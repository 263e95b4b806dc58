/- Parts of the proof: Lift Lists DskP Reads3 Reads2 TxnP ReadsT RowK Mem Seq. -/
import Derived.Test.YtjhmfljlclajnacDoorRows
import Derived.Test.YtjhmfljlclajnacDoorUBase
import Derived.ProofKit
import Derived.OpenShut
import Derived.Deep.DeepHandedRow
import Derived.LaidLaws
import Derived.Lib.SmallJoins
import Derived.SizedLaws
import Derived.Test.YtjhmfljlclajnacDoorUBytes
import Derived.Test.YtjhmfljlclajnacDoorUPure
import Derived.Test.YtjhmfljlclajnacDoorUPoke
import Derived.Test.YtjhmfljlclajnacDoorURegCall
import Derived.Lib.AppendZerosOnto
import Derived.Lib.Overlaps
import Derived.Lib.SliceRun
import Derived.Laws.IdiomCopy
import Derived.Deep.MidRow
import Derived.OrdersHeld
set_option linter.unusedVariables false
set_option linter.unusedSimpArgs false
namespace Go.Proofs.YtjhmfljlclajnacDoor
open Go.ChangeShapes Go.WideShapes Go.ChangeAt Go.RowKit Wb
theorem own : ownKnob Tryd.prog.godebug = none := by kernel_rfl
theorem laidOut : laidOutB Tryd.prog = true := by kernel_rfl
theorem trodAll_stays {H : Type} {enc : TypeId × Value → H} {W W' : World} {sp : Nat → Bool} (hb : Below W.heap.size W W') : ∀ (ts : List TypeId) (vs : List Value) (ds : List (DataW H)) (ps : List MemPlace),
    (∀ t ∈ ts, Tryd.prog.readableRec t = true ∧ t < Tryd.prog.types.size) → DataW.TrodAll enc Tryd.prog W 0 (fun _ => true) true ts vs ds ps →
    (∀ x ∈ ps, x.block < W.heap.size) → (∀ x ∈ ps, sp x.block = true) → DataW.TrodAll enc Tryd.prog W' 0 sp true ts vs ds ps
 | [], [], [], _, _, h, _, _ => h
 | t :: ts, v :: vs, d :: ds, ps, hr, h, hlt, hs => by
  obtain ⟨p, q, h1, h2, rfl⟩ := h
  refine ⟨p, q, ?_, ?_, rfl⟩
  ·exact WideElems.Trod_stays laidOut (hr t (by simp)).1 (hr t (by simp)).2 h1 (fun x hx => hb.same (hlt x (by simp [hx]))) (fun x hx => hs x (by simp [hx]))
  ·exact trodAll_stays hb ts vs ds q (fun t' ht => hr t' (by simp [ht])) h2 (fun x hx => hlt x (by simp [hx])) (fun x hx => hs x (by simp [hx]))
 | [], [], _ :: _, _, _, h, _, _ => h.elim
 | [], _ :: _, _, _, _, h, _, _ => h.elim
 | _ :: _, [], _, _, _, h, _, _ => h.elim
 | _ :: _, _ :: _, [], _, _, h, _, _ => h.elim
theorem post_true {H : Type} {enc : TypeId × Value → H} {f : Func} {s : ChangeSpec} {apart fresh handsOn : Bool} {W W' : World} {args : Array Value} {ds gs : List (DataW H)} {before : List MemPlace}
    (hres : f.resultTypes = #[4]) (hvars : s.vars = []) (hspec : s.fn H (ds ++ gs) = { results := [.lit (.bool true)], args := ds })
    (hread : ∀ t ∈ f.params.toList, Tryd.prog.readableRec t = true ∧ t < Tryd.prog.types.size)
    (hW : DataW.Whole enc Tryd.prog f.params.toList s.vars apart W args.toList ds gs before) (hb : Below W.heap.size W W') :
    s.post enc Tryd.prog f apart fresh handsOn false W args (.bool true) W' := by
 have hlt := hW.lt
 have hW' := hW
 obtain ⟨p, q, hA, hV, rfl, hfz, hnd⟩ := hW
 rw [hvars] at hV
 obtain ⟨rfl, rfl⟩ := trodVars_none hV
 refine ⟨ds, [], _, [], p, [], hW', ?_, ?_, ?_, hb.frame _, fun h => by cases h⟩
 ·rw [hspec, hres]
  exact trodAll_mk1 (shut_bool Tryd.underlying4 true)
 ·rw [hspec]
  exact trodAll_stays hb _ _ _ _ hread hA (fun x hx => hlt x (by simp [hx])) (fun x hx => by simpa using hlt x (by simp [hx]))
 ·rw [hspec, hvars]
  rfl
end Go.Proofs.YtjhmfljlclajnacDoor
namespace Wb
open Go Go.ChangeShapes Go.WideShapes Go.ChangeAt Go.RowKit Go.Joins Go.Deep
theorem flat_at {α : Type} {f : α → List Value} {c : Nat} (hf : ∀ x, (f x).length = c) : ∀ (l : List α) (j : Nat) (u : Value), (l.flatMap f)[j]? = some u → ∃ i x r, l[i]? = some x ∧ j = i * c + r ∧ (f x)[r]? = some u ∧ r < c
 | [], j, u, h => by simp at h
 | y :: l, j, u, h => by
  rw [List.flatMap_cons] at h
  by_cases hj : j < c
  ·rw [List.getElem?_append_left (by rw [hf]; exact hj)] at h
   exact ⟨0, y, j, rfl, by omega, h, hj⟩
  ·rw [List.getElem?_append_right (by rw [hf]; omega), hf] at h
   obtain ⟨i, x, r, h1, h2, h3, h4⟩ := flat_at hf l _ u h
   exact ⟨i + 1, x, r, by simpa using h1, by rw [Nat.succ_mul]; omega, h3, h4⟩
section
variable {H : Type} {enc : TypeId × Value → H} {P : Program} {w : World} {base : Nat} {spare : Nat → Bool} {held : Bool}
theorem read_RL {α : Type} [Inhabited α] {f : α → List Value} {c : Nat} (hf : ∀ x, (f x).length = c) (h0 : 0 < c) {t e : TypeId} {fuel : Nat} {cs : List Value} {x : DataW H × List MemPlace} (ht : P.underlying t = some (.slice e)) (hc : P.cellsOf e = c)
    (hread : ∀ n cs' y, DataW.trod enc P w base spare held n e cs' = some y → cs'.length = c → ∃ x : α, cs' = f x) (h : DataW.trod enc P w base spare held fuel t cs = some x) :
    ∃ (v : Value) (l : List α), cs = [v] ∧ RL f w v l ∧ ((x.1 = .nil ∧ l = []) ∨ ∃ el sp, x.1 = .slice el sp ∧ el.length = l.length) := by
 rcases open_slice ht h with ⟨rfl, rfl⟩ | ⟨a, len, cap, m, n, D, Pl, rfl, hb, hl, hm, hmm, rfl, hx⟩
 ·exact ⟨_, [], rfl, RL.nil f w, .inl ⟨rfl, rfl⟩⟩
 have hlm : len ≤ m := by rw [hmm]; split <;> omega
 have each : ∀ i, i < len → ∃ x : α, ∀ r, r < c → w.cell? (a.add (i * c + r)) = (f x)[r]? := by
  intro i hi
  obtain ⟨cs', h1, h2⟩ := hx i (by omega)
  rw [hc] at h1
  obtain ⟨_, hlen, hcell⟩ := World.cells?_some h1
  obtain ⟨x, rfl⟩ := hread _ _ _ h2 hlen
  exact ⟨x, fun r hr => by have := hcell r hr; rwa [add_add] at this⟩
 obtain ⟨X, hX⟩ := choose_lt each
 refine ⟨_, (List.range len).map X, rfl, ?_, .inr ⟨_, _, rfl, by simp⟩⟩
 refine ⟨some a, cap, by simp, by simpa using hl, hm, ?_⟩
 by_cases hlen : len = 0
 ·subst hlen; left; rfl
 right
 have hspot : a.spot = none := by
  have h1 := hX 0 (by omega) 0 h0
  have h2 : (f (X 0))[0]? ≠ none := by rw [Ne, List.getElem?_eq_none_iff, hf]; omega
  obtain ⟨u, hu⟩ := Option.ne_none_iff_exists'.1 h2
  rw [hu] at h1
  simpa [Addr.add] using World.cell?_spot h1
 obtain ⟨b, off, spot⟩ := a
 obtain rfl : spot = none := hspot
 refine ⟨b, off, rfl, fun j u hj => ?_⟩
 obtain ⟨i, x, r, h1, rfl, h3, h4⟩ := flat_at hf _ _ _ hj
 rw [List.getElem?_map, Option.map_eq_some_iff] at h1
 obtain ⟨k, hk, rfl⟩ := h1
 obtain ⟨hkl, rfl⟩ := List.getElem?_eq_some_iff.1 hk
 simp only [List.length_range] at hkl
 simp only [List.getElem_range] at h3
 have := hX i hkl r h4
 rw [h3, Addr.add_lit] at this
 exact this
end
end Wb
namespace Wb
open Go Go.RowKit
structure Wr where
 at_ : Int
 text : ByteArray
structure Dsk where
 safe : List ByteArray
 writes : List Wr
instance : Inhabited Wr := ⟨⟨0, ⟨#[]⟩⟩⟩
instance : Inhabited ByteArray := ⟨⟨#[]⟩⟩
def wrC (x : Wr) : List Value := [.int .i64 x.at_, .string x.text]
theorem wrC_flat : Flat wrC 2 := ⟨fun _ => rfl, fun _ u hu => by simp [wrC] at hu; rcases hu with rfl | rfl <;> rfl, by decide⟩
def isAt (n : Int) : Bool := decide (0 ≤ n ∧ n < 37)
def ok32 (s : ByteArray) : Bool := decide (s.size = 32)
def wrOk (x : Wr) : Bool := isAt x.at_ && ok32 x.text
def goodD (d : Dsk) : Bool := decide (d.safe.length = 37) && decide (d.writes.length ≤ 200) && d.safe.all ok32 && d.writes.all wrOk
theorem goodD_iff (d : Dsk) : goodD d = true ↔ d.safe.length = 37 ∧ d.writes.length ≤ 200 ∧ d.safe.all ok32 = true ∧ d.writes.all wrOk = true := by
 unfold goodD; simp only [Bool.and_eq_true, decide_eq_true_iff, and_assoc]
def RDisk (w : World) (v : Value) (d : Dsk) : Prop :=
 ∃ vs vw, v = .agg #[vs, vw] ∧ RL strC w vs d.safe ∧ RL wrC w vw d.writes ∧ d.safe.length ≤ 8796093022208 ∧ d.writes.length ≤ 5864062014805
theorem RDisk.below {w w' : World} {v : Value} {d : Dsk} (h : RDisk w v d) (hb : Below w.heap.size w w') : RDisk w' v d := by
 obtain ⟨vs, vw, hv, h1, h2, h3⟩ := h
 exact ⟨vs, vw, hv, h1.below hb, h2.below hb, h3⟩
def idxIs (b : Bool) (r : Int) : Prop := if b = true then r = -1 else 0 ≤ r
theorem all_step {α : Type} {p : α → Bool} {l : List α} {k : Nat} (hk : k < l.length) (h : (l.take k).all p = true) (hp : p l[k] = true) : (l.take (k + 1)).all p = true := by
 rw [List.take_succ_eq_append_getElem hk, List.all_append, h]
 simp [hp]
theorem all_no {α : Type} {p : α → Bool} {l : List α} {k : Nat} (hk : k < l.length) (hp : p l[k] = false) : l.all p = false := by
 rw [← Bool.not_eq_true, List.all_eq_true]
 intro h
 rw [h _ (List.getElem_mem hk)] at hp
 exact Bool.noConfusion hp
theorem all_full {α : Type} {p : α → Bool} {l : List α} {k : Nat} (hk : k ≤ l.length) (hn : ¬ k < l.length) (h : (l.take k).all p = true) : l.all p = true := by
 rw [List.take_of_length_le (by omega)] at h; exact h
def lastT (s : ByteArray) (n : Int) (ws : List Wr) : ByteArray := ws.foldl (fun r x => if x.at_ = n then x.text else r) s
theorem lastT_nil (s : ByteArray) (n : Int) : lastT s n [] = s := rfl
theorem lastT_step (s : ByteArray) (n : Int) (ws : List Wr) (x : Wr) : lastT s n (ws ++ [x]) = if x.at_ = n then x.text else lastT s n ws := by simp [lastT]
theorem lastT_hit (s : ByteArray) (n : Int) {ws : List Wr} {k : Nat} (hk : k < ws.length) (h : ws[k].at_ = n) : lastT s n (ws.take (k + 1)) = ws[k].text := by
 rw [List.take_succ_eq_append_getElem hk, lastT_step, if_pos h]
theorem lastT_miss (s : ByteArray) (n : Int) {ws : List Wr} {k : Nat} (hk : k < ws.length) (h : ws[k].at_ ≠ n) : lastT s n (ws.take (k + 1)) = lastT s n (ws.take k) := by
 rw [List.take_succ_eq_append_getElem hk, lastT_step, if_neg h]
def safeAt (d : Dsk) (n : Int) : ByteArray := d.safe.getD n.toNat ⟨#[]⟩
def readD (d : Dsk) (n : Int) : ByteArray := if goodD d = true ∧ isAt n = true then lastT (safeAt d n) n d.writes else ⟨#[]⟩
def readE (d : Dsk) (n : Int) : Int := if goodD d = true ∧ isAt n = true then 0 else 2
def afterL (s : ByteArray) (n : Int) (ws : List Wr) : List ByteArray := s :: (ws.filter (fun x => decide (x.at_ = n))).map (·.text)
theorem afterL_nil (s : ByteArray) (n : Int) : afterL s n [] = [s] := rfl
theorem afterL_step (s : ByteArray) (n : Int) (ws : List Wr) (x : Wr) : afterL s n (ws ++ [x]) = if x.at_ = n then afterL s n ws ++ [x.text] else afterL s n ws := by
 by_cases h : x.at_ = n <;> simp [afterL, h]
theorem afterL_len (s : ByteArray) (n : Int) (ws : List Wr) : (afterL s n ws).length ≤ ws.length + 1 := by
 simp only [afterL, List.length_cons, List.length_map]
 have := List.length_filter_le (fun x : Wr => decide (x.at_ = n)) ws
 omega
theorem afterL_hit (s : ByteArray) (n : Int) {ws : List Wr} {k : Nat} (hk : k < ws.length) (h : ws[k].at_ = n) : afterL s n (ws.take (k + 1)) = afterL s n (ws.take k) ++ [ws[k].text] := by
 rw [List.take_succ_eq_append_getElem hk, afterL_step, if_pos h]
theorem afterL_miss (s : ByteArray) (n : Int) {ws : List Wr} {k : Nat} (hk : k < ws.length) (h : ws[k].at_ ≠ n) : afterL s n (ws.take (k + 1)) = afterL s n (ws.take k) := by
 rw [List.take_succ_eq_append_getElem hk, afterL_step, if_neg h]
theorem after_last (s : ByteArray) (n : Int) (ws : List Wr) : (afterL s n ws).getLast? = some (lastT s n ws) := by
 have key : ∀ k, k ≤ ws.length → (afterL s n (ws.take k)).getLast? = some (lastT s n (ws.take k)) := by
  intro k
  induction k with
  | zero => intro _; rfl
  | succ k ih =>
   intro hk
   by_cases h : ws[k].at_ = n
   ·rw [afterL_hit s n hk h, lastT_hit s n hk h]; simp
   ·rw [afterL_miss s n hk h, lastT_miss s n hk h]; exact ih (by omega)
 have := key ws.length (Nat.le_refl _)
 rwa [List.take_length] at this
def putE (d : Dsk) (n : Int) (t : ByteArray) : Int := if ¬ (goodD d = true ∧ isAt n = true) then 2 else if t.size ≠ 32 then 1 else if 200 ≤ d.writes.length then 11 else 0
def putD (d : Dsk) (n : Int) (t : ByteArray) : Dsk := if putE d n t = 0 then ⟨d.safe, d.writes ++ [⟨n, t⟩]⟩ else d
end Wb
namespace Go.Proofs.YtjhmfljlclajnacDoor
open Go.ChangeShapes Go.WideShapes Go.ChangeAt Go.RowKit Go.Joins Wb
set_option maxRecDepth 100000
section
variable {H : Type} {enc : TypeId × Value → H} {W : World} {base : Nat}
theorem read_strs {fuel : Nat} {cs : List Value} {x : DataW H × List MemPlace} (h : DataW.trod enc Tryd.prog W 0 (fun _ => true) true fuel 22 cs = some x) :
    ∃ (v : Value) (l : List ByteArray), cs = [v] ∧ RL strC W v l ∧ ((x.1 = .nil ∧ l = []) ∨ ∃ el sp, x.1 = .slice el sp ∧ el.length = l.length) :=
 read_RL (c := 1) (fun _ => rfl) (by decide) Tryd.underlying22 (by kernel_rfl) (fun n cs' y hy _ => by
  obtain ⟨a, rfl, _⟩ := DataW.trod_string Tryd.underlying9 hy
  exact ⟨a, rfl⟩) h
theorem read_writes {fuel : Nat} {cs : List Value} {x : DataW H × List MemPlace} (h : DataW.trod enc Tryd.prog W 0 (fun _ => true) true fuel 23 cs = some x) :
    ∃ (v : Value) (l : List Wr), cs = [v] ∧ RL wrC W v l ∧ ((x.1 = .nil ∧ l = []) ∨ ∃ el sp, x.1 = .slice el sp ∧ el.length = l.length) :=
 read_RL (c := 2) (fun _ => rfl) (by decide) Tryd.underlying23 (by kernel_rfl) (fun n cs' y hy hlen => by
  obtain ⟨y0, y1, n, _, _, h0, h1⟩ := trod_struct2 Tryd.underlying66 hy
  match cs', hlen with
  | [u0, u1], _ =>
   have h0 : DataW.trod enc Tryd.prog W 0 (fun _ => true) true n 3 [u0] = some y0 := h0
   have h1 : DataW.trod enc Tryd.prog W 0 (fun _ => true) true n 9 [u1] = some y1 := h1
   obtain ⟨a, e0, _⟩ := DataW.trod_int Tryd.underlying3 h0
   obtain ⟨b, e1, _⟩ := DataW.trod_string Tryd.underlying9 h1
   simp at e0 e1
   subst e0 e1
   exact ⟨⟨a, b⟩, rfl⟩) h
theorem read_disk {v : Value} {d : DataW H} {p : List MemPlace} (hv : Value.okWide Tryd.prog W .any base 25 v)
    (h : DataW.Trod enc Tryd.prog W 0 (fun _ => true) true 25 v d p) (hw : (d.weights Tryd.prog 25).all (· ≤ reachBytes) = true) : ∃ m : Dsk, RDisk W v m := by
 obtain ⟨cs, rfl, hsz⟩ := okWide_struct Tryd.underlying25 hv
 obtain ⟨fuel, hf⟩ := h
 obtain ⟨xs, n, _, hx, hl, hlen, hg⟩ := DataW.trod_struct Tryd.underlying25 hf
 have hsz' : cs.size = 2 := hsz.trans (by kernel_rfl)
 obtain ⟨ls⟩ := cs
 match ls, hsz', xs, hlen with
 | [u0, u1], _, [y0, y1], _ =>
  have h0 : DataW.trod enc Tryd.prog W 0 (fun _ => true) true n 22 [u0] = some y0 := hg 0 _ rfl
  have h1 : DataW.trod enc Tryd.prog W 0 (fun _ => true) true n 23 [u1] = some y1 := hg 1 _ rfl
  obtain ⟨v0, safe, e0, r0, d0⟩ := read_strs h0
  obtain ⟨v1, writes, e1, r1, d1⟩ := read_writes h1
  simp only [List.cons.injEq, and_true] at e0 e1
  subst e0 e1
  simp only [Prod.mk.injEq] at hx
  obtain ⟨rfl, _⟩ := hx
  have hw2 : (DataW.weightsEach Tryd.prog [22, 23] [y0.1, y1.1]).all (· ≤ reachBytes) = true := by
   simpa [DataW.weights, Tryd.underlying25] using hw
  have b0 : Tryd.prog.bytesOf 9 = 16 := by kernel_rfl
  have b1 : Tryd.prog.bytesOf 66 = 24 := by kernel_rfl
  refine ⟨⟨safe, writes⟩, _, _, rfl, r0, r1, ?_, ?_⟩
  ·rcases d0 with ⟨_, rfl⟩ | ⟨el, sp, hy, hel⟩
   ·simp
   ·have := sized_slice hw2 (j := 0) rfl (by simp [hy]; exact ⟨rfl, rfl⟩) Tryd.underlying22
    rw [b0] at this
    unfold reachBytes at this
    dsimp only
    omega
  ·rcases d1 with ⟨_, rfl⟩ | ⟨el, sp, hy, hel⟩
   ·simp
   ·have := sized_slice hw2 (j := 1) rfl (by simp [hy]; exact ⟨rfl, rfl⟩) Tryd.underlying23
    rw [b1] at this
    unfold reachBytes at this
    dsimp only
    omega
end
instance : Inhabited Tag := ⟨⟨0, false⟩⟩
section
variable {H : Type} {enc : TypeId × Value → H} {W : World} {base : Nat}
theorem read_ints {fuel : Nat} {cs : List Value} {x : DataW H × List MemPlace} (h : DataW.trod enc Tryd.prog W 0 (fun _ => true) true fuel 50 cs = some x) :
    ∃ (v : Value) (l : List Int), cs = [v] ∧ RL intC W v l ∧ ((x.1 = .nil ∧ l = []) ∨ ∃ el sp, x.1 = .slice el sp ∧ el.length = l.length) :=
 read_RL (c := 1) (fun _ => rfl) (by decide) Tryd.underlying50 (by kernel_rfl) (fun n cs' y hy _ => by
  obtain ⟨a, rfl, _⟩ := DataW.trod_int Tryd.underlying3 hy
  exact ⟨a, rfl⟩) h
end
end Go.Proofs.YtjhmfljlclajnacDoor
namespace Wb
open Go Go.RowKit
structure Cpy where
 block : Int
 text : ByteArray
instance : Inhabited Cpy := ⟨⟨0, ⟨#[]⟩⟩⟩
def cpyC (x : Cpy) : List Value := [.int .i64 x.block, .string x.text]
theorem cpyC_flat : Flat cpyC 2 := ⟨fun _ => rfl, fun _ u hu => by simp [cpyC] at hu; rcases hu with rfl | rfl <;> rfl, by decide⟩
structure Hnd where
 on : Bool
 left : Int
structure Txn where
 seq : Int
 mt : List Cpy
 dt : List Cpy
 rev : List Int
 h0 : Hnd
 h1 : Hnd
 h2 : Hnd
def hnd0 : Hnd := ⟨false, 0⟩
def txn0 (seq : Int) : Txn := ⟨seq, [], [], [], hnd0, hnd0, hnd0⟩
def blks (l : List Cpy) : List Int := l.map (·.block)
def hasB (l : List Cpy) (b : Int) : Bool := l.any (fun c => c.block == b)
def inI (l : List Int) (b : Int) : Bool := l.any (fun x => x == b)
def getC (l : List Cpy) (b : Int) : Option ByteArray := (l.find? (fun c => c.block == b)).map (·.text)
def copiesB (l : List Cpy) : Bool := rise (blks l) && l.all (fun c => ok32 c.text)
def hOk (h : Hnd) : Bool := decide (0 ≤ h.left ∧ h.left ≤ 24) && (h.on || decide (h.left = 0))
def seqOk (s : Int) : Bool := decide (1 ≤ s ∧ s ≤ 2147483647)
def apart (t : Txn) : Bool := t.rev.all (fun b => !hasB t.mt b && !hasB t.dt b) && t.mt.all (fun c => !hasB t.dt c.block)
def goodT (t : Txn) : Bool := seqOk t.seq && copiesB t.mt && copiesB t.dt && rise t.rev && apart t && (hOk t.h0 && hOk t.h1 && hOk t.h2)
theorem goodT_iff (t : Txn) : goodT t = true ↔ seqOk t.seq = true ∧ copiesB t.mt = true ∧ copiesB t.dt = true ∧ rise t.rev = true ∧ apart t = true ∧ hOk t.h0 = true ∧ hOk t.h1 = true ∧ hOk t.h2 = true := by
 unfold goodT; simp only [Bool.and_eq_true, and_assoc]
def txnV (t : Txn) (vm vd vr : Value) : Value := .agg #[.int .i64 t.seq, vm, vd, vr, .bool t.h0.on, .int .i64 t.h0.left, .bool t.h1.on, .int .i64 t.h1.left, .bool t.h2.on, .int .i64 t.h2.left]
def RTxn (w : World) (v : Value) (t : Txn) : Prop :=
 ∃ vm vd vr, v = txnV t vm vd vr ∧ RL cpyC w vm t.mt ∧ RL cpyC w vd t.dt ∧ RL intC w vr t.rev ∧ t.mt.length ≤ 5864062014805 ∧ t.dt.length ≤ 5864062014805 ∧ t.rev.length ≤ 17592186044160
theorem RTxn.below {w w' : World} {v : Value} {t : Txn} (h : RTxn w v t) (hb : Below w.heap.size w w') : RTxn w' v t := by
 obtain ⟨vm, vd, vr, hv, h1, h2, h3, h4⟩ := h
 exact ⟨vm, vd, vr, hv, h1.below hb, h2.below hb, h3.below hb, h4⟩
structure SlV where
 a : Option Addr
 n : Nat
 c : Nat
def SlV.val (x : SlV) : Value := .slice x.a x.n x.c
structure TV where
 t : Txn
 m : SlV
 d : SlV
 r : SlV
def tvC (x : TV) : List Value := [.int .i64 x.t.seq, x.m.val, x.d.val, x.r.val, .bool x.t.h0.on, .int .i64 x.t.h0.left, .bool x.t.h1.on, .int .i64 x.t.h1.left, .bool x.t.h2.on, .int .i64 x.t.h2.left]
theorem tvC_flat : Flat tvC 10 := ⟨fun _ => rfl, fun _ u hu => by simp [tvC, SlV.val] at hu; rcases hu with rfl | rfl | rfl | rfl | rfl | rfl | rfl | rfl | rfl | rfl <;> rfl, by decide⟩
def TV.val (x : TV) : Value := txnV x.t x.m.val x.d.val x.r.val
def TV.ok (w : World) (x : TV) : Prop := RTxn w x.val x.t
theorem RTxn.tv {w : World} {v : Value} {t : Txn} (h : RTxn w v t) : ∃ x : TV, x.t = t ∧ v = x.val ∧ x.ok w := by
 have hh := h
 obtain ⟨vm, vd, vr, rfl, h1, h2, h3, h4⟩ := h
 obtain ⟨a, c, rfl, _⟩ := h1.form
 obtain ⟨a2, c2, rfl, _⟩ := h2.form
 obtain ⟨a3, c3, rfl, _⟩ := h3.form
 exact ⟨⟨t, ⟨a, _, c⟩, ⟨a2, _, c2⟩, ⟨a3, _, c3⟩⟩, rfl, rfl, hh⟩
def RTxns (w : World) (v : Value) (l : List Txn) : Prop := ∃ xs : List TV, RL tvC w v xs ∧ xs.map (·.t) = l ∧ (∀ x ∈ xs, x.ok w) ∧ xs.length ≤ 1099511627744
theorem RTxns.below {w w' : World} {v : Value} {l : List Txn} (h : RTxns w v l) (hb : Below w.heap.size w w') : RTxns w' v l := by
 obtain ⟨xs, h1, h2, h3, h4⟩ := h
 exact ⟨xs, h1.below hb, h2, fun x hx => (h3 x hx).below hb, h4⟩
theorem RTxns.nil (w : World) : RTxns w (.slice none 0 0) [] := ⟨[], RL.nil _ _, rfl, (fun _ h => absurd h List.not_mem_nil), by decide⟩
theorem RTxns.form {w : World} {v : Value} {l : List Txn} (h : RTxns w v l) : ∃ a c, v = .slice a l.length c ∧ l.length ≤ 1099511627744 := by
 obtain ⟨xs, h1, rfl, h3, h4⟩ := h
 obtain ⟨a, c, hv, _⟩ := h1.form
 exact ⟨a, c, by rw [hv, List.length_map], by rw [List.length_map]; exact h4⟩
theorem RL.at10 {α : Type} {f : α → List Value} {w : World} {a : Option Addr} {n cap : Nat} {l : List α} (g0 g1 g2 g3 g4 g5 g6 g7 g8 g9 : α → Value) (hf : ∀ x, f x = [g0 x, g1 x, g2 x, g3 x, g4 x, g5 x, g6 x, g7 x, g8 x, g9 x]) (h : RL f w (.slice a n cap) l) {k : Nat} (hk : k < l.length) :
    ∃ b off, a = some ⟨b, off, none⟩ ∧ w.cell? ⟨b, off + k * 10, none⟩ = some (g0 l[k]) ∧ w.cell? ⟨b, off + k * 10 + 1, none⟩ = some (g1 l[k]) ∧ w.cell? ⟨b, off + k * 10 + 2, none⟩ = some (g2 l[k]) ∧ w.cell? ⟨b, off + k * 10 + 3, none⟩ = some (g3 l[k]) ∧ w.cell? ⟨b, off + k * 10 + 4, none⟩ = some (g4 l[k]) ∧ w.cell? ⟨b, off + k * 10 + 5, none⟩ = some (g5 l[k]) ∧ w.cell? ⟨b, off + k * 10 + 6, none⟩ = some (g6 l[k]) ∧ w.cell? ⟨b, off + k * 10 + 7, none⟩ = some (g7 l[k]) ∧ w.cell? ⟨b, off + k * 10 + 8, none⟩ = some (g8 l[k]) ∧ w.cell? ⟨b, off + k * 10 + 9, none⟩ = some (g9 l[k]) := by
 obtain ⟨b, off, ha, hc⟩ := RL.at (c := 10) (fun x => by rw [hf]; rfl) h hk (by decide)
 exact ⟨b, off, ha, hc 0 _ (by rw [hf]; rfl), hc 1 _ (by rw [hf]; rfl), hc 2 _ (by rw [hf]; rfl), hc 3 _ (by rw [hf]; rfl), hc 4 _ (by rw [hf]; rfl), hc 5 _ (by rw [hf]; rfl), hc 6 _ (by rw [hf]; rfl), hc 7 _ (by rw [hf]; rfl), hc 8 _ (by rw [hf]; rfl), hc 9 _ (by rw [hf]; rfl)⟩
theorem RTxns.at {w : World} {a : Option Addr} {n cap : Nat} {l : List Txn} (h : RTxns w (.slice a n cap) l) {k : Nat} (hk : k < l.length) :
    ∃ b off vm vd vr, a = some ⟨b, off, none⟩ ∧ RTxn w (txnV l[k] vm vd vr) l[k] ∧ w.cell? ⟨b, off + k * 10, none⟩ = some (.int .i64 l[k].seq) ∧ w.cell? ⟨b, off + k * 10 + 1, none⟩ = some vm ∧ w.cell? ⟨b, off + k * 10 + 2, none⟩ = some vd ∧ w.cell? ⟨b, off + k * 10 + 3, none⟩ = some vr ∧ w.cell? ⟨b, off + k * 10 + 4, none⟩ = some (.bool l[k].h0.on) ∧ w.cell? ⟨b, off + k * 10 + 5, none⟩ = some (.int .i64 l[k].h0.left) ∧ w.cell? ⟨b, off + k * 10 + 6, none⟩ = some (.bool l[k].h1.on) ∧ w.cell? ⟨b, off + k * 10 + 7, none⟩ = some (.int .i64 l[k].h1.left) ∧ w.cell? ⟨b, off + k * 10 + 8, none⟩ = some (.bool l[k].h2.on) ∧ w.cell? ⟨b, off + k * 10 + 9, none⟩ = some (.int .i64 l[k].h2.left) := by
 obtain ⟨xs, h1, rfl, h3, h4⟩ := h
 have hk' : k < xs.length := by simpa using hk
 obtain ⟨b, off, ha, c0, c1, c2, c3, c4, c5, c6, c7, c8, c9⟩ := RL.at10 (fun x : TV => .int .i64 x.t.seq) (fun x => x.m.val) (fun x => x.d.val) (fun x => x.r.val) (fun x => .bool x.t.h0.on) (fun x => .int .i64 x.t.h0.left) (fun x => .bool x.t.h1.on) (fun x => .int .i64 x.t.h1.left) (fun x => .bool x.t.h2.on) (fun x => .int .i64 x.t.h2.left) (fun _ => rfl) h1 hk'
 have hx := h3 xs[k] (List.getElem_mem hk')
 simp only [List.getElem_map]
 exact ⟨b, off, _, _, _, ha, hx, c0, c1, c2, c3, c4, c5, c6, c7, c8, c9⟩
end Wb
namespace Wb
open Go Go.ChangeShapes Go.WideShapes Go.ChangeAt Go.RowKit Go.Joins Go.Deep
instance : Inhabited TV := ⟨⟨txn0 0, ⟨none, 0, 0⟩, ⟨none, 0, 0⟩, ⟨none, 0, 0⟩⟩⟩
end Wb
namespace Go.Proofs.YtjhmfljlclajnacDoor
open Go.ChangeShapes Go.WideShapes Go.ChangeAt Go.RowKit Go.Joins Wb
set_option maxRecDepth 100000
section
variable {H : Type} {enc : TypeId × Value → H} {W : World} {base : Nat}
theorem read_copies {fuel : Nat} {cs : List Value} {x : DataW H × List MemPlace} (h : DataW.trod enc Tryd.prog W 0 (fun _ => true) true fuel 37 cs = some x) :
    ∃ (v : Value) (l : List Cpy), cs = [v] ∧ RL cpyC W v l ∧ ((x.1 = .nil ∧ l = []) ∨ ∃ el sp, x.1 = .slice el sp ∧ el.length = l.length) :=
 read_RL (c := 2) (fun _ => rfl) (by decide) Tryd.underlying37 (by kernel_rfl) (fun n cs' y hy hlen => by
  obtain ⟨y0, y1, n, _, _, h0, h1⟩ := trod_struct2 Tryd.underlying46 hy
  match cs', hlen with
  | [u0, u1], _ =>
   have h0 : DataW.trod enc Tryd.prog W 0 (fun _ => true) true n 3 [u0] = some y0 := h0
   have h1 : DataW.trod enc Tryd.prog W 0 (fun _ => true) true n 9 [u1] = some y1 := h1
   obtain ⟨a, e0, _⟩ := DataW.trod_int Tryd.underlying3 h0
   obtain ⟨b, e1, _⟩ := DataW.trod_string Tryd.underlying9 h1
   simp at e0 e1
   subst e0 e1
   exact ⟨⟨a, b⟩, rfl⟩) h
theorem read_hnd {n : Nat} {u0 u1 : Value} {x : DataW H × List MemPlace} (hy : DataW.trod enc Tryd.prog W 0 (fun _ => true) true n 52 [u0, u1] = some x) : ∃ h : Hnd, u0 = .bool h.on ∧ u1 = .int .i64 h.left := by
 obtain ⟨y0, y1, n, _, _, h0, h1⟩ := trod_struct2 Tryd.underlying52 hy
 have h0 : DataW.trod enc Tryd.prog W 0 (fun _ => true) true n 4 [u0] = some y0 := h0
 have h1 : DataW.trod enc Tryd.prog W 0 (fun _ => true) true n 3 [u1] = some y1 := h1
 obtain ⟨a, e0, _⟩ := DataW.trod_bool Tryd.underlying4 h0
 obtain ⟨b, e1, _⟩ := DataW.trod_int Tryd.underlying3 h1
 simp at e0 e1
 subst e0 e1
 exact ⟨⟨a, b⟩, rfl, rfl⟩
theorem read_txnCells {n : Nat} {cs : List Value} {x : DataW H × List MemPlace} (hlen : cs.length = 10) (h : DataW.trod enc Tryd.prog W 0 (fun _ => true) true n 55 cs = some x) :
    ∃ tv : TV, cs = tvC tv ∧ ((x.1.weights Tryd.prog 55).all (· ≤ reachBytes) = true → tv.ok W) := by
 obtain ⟨xs, m, _, hx, hl, hln, hg⟩ := DataW.trod_struct Tryd.underlying55 h
 match cs, hlen, xs, hln with
 | [u0, u1, u2, u3, u4, u5, u6, u7, u8, u9], _, [y0, y1, y2, y3, y4], _ =>
  have h0 : DataW.trod enc Tryd.prog W 0 (fun _ => true) true m 3 [u0] = some y0 := hg 0 _ rfl
  have h1 : DataW.trod enc Tryd.prog W 0 (fun _ => true) true m 37 [u1] = some y1 := hg 1 _ rfl
  have h2 : DataW.trod enc Tryd.prog W 0 (fun _ => true) true m 37 [u2] = some y2 := hg 2 _ rfl
  have h3 : DataW.trod enc Tryd.prog W 0 (fun _ => true) true m 50 [u3] = some y3 := hg 3 _ rfl
  have h4 : DataW.trod enc Tryd.prog W 0 (fun _ => true) true m 53 [u4, u5, u6, u7, u8, u9] = some y4 := hg 4 _ rfl
  obtain ⟨a, e0, _⟩ := DataW.trod_int Tryd.underlying3 h0
  obtain ⟨v1, l1, e1, r1, d1⟩ := read_copies h1
  obtain ⟨v2, l2, e2, r2, d2⟩ := read_copies h2
  obtain ⟨v3, l3, e3, r3, d3⟩ := read_ints h3
  obtain ⟨zs, m2, _, hz, _, hzl, hh⟩ := DataW.trod_array Tryd.underlying53 h4
  match zs, hzl with
  | [z0, z1, z2], _ =>
  have k0 : DataW.trod enc Tryd.prog W 0 (fun _ => true) true m2 52 [u4, u5] = some z0 := hh 0 (by decide)
  have k1 : DataW.trod enc Tryd.prog W 0 (fun _ => true) true m2 52 [u6, u7] = some z1 := hh 1 (by decide)
  have k2 : DataW.trod enc Tryd.prog W 0 (fun _ => true) true m2 52 [u8, u9] = some z2 := hh 2 (by decide)
  obtain ⟨p0, f0, f1⟩ := read_hnd k0
  obtain ⟨p1, f2, f3⟩ := read_hnd k1
  obtain ⟨p2, f4, f5⟩ := read_hnd k2
  simp only [List.cons.injEq, and_true] at e0 e1 e2 e3
  subst e0 e1 e2 e3 f0 f1 f2 f3 f4 f5
  obtain ⟨a1, c1, rfl, _⟩ := r1.form
  obtain ⟨a2, c2, rfl, _⟩ := r2.form
  obtain ⟨a3, c3, rfl, _⟩ := r3.form
  refine ⟨⟨⟨a, l1, l2, l3, p0, p1, p2⟩, ⟨a1, _, c1⟩, ⟨a2, _, c2⟩, ⟨a3, _, c3⟩⟩, rfl, fun hw => ?_⟩
  subst hx
  have hw2 : (DataW.weightsEach Tryd.prog [3, 37, 37, 50, 53] [y0.1, y1.1, y2.1, y3.1, y4.1]).all (· ≤ reachBytes) = true := by
   simpa [DataW.weights, Tryd.underlying55] using hw
  have b1 : Tryd.prog.bytesOf 46 = 24 := by kernel_rfl
  have b3 : Tryd.prog.bytesOf 3 = 8 := by kernel_rfl
  refine ⟨_, _, _, rfl, r1, r2, r3, ?_, ?_, ?_⟩
  ·rcases d1 with ⟨_, rfl⟩ | ⟨el, sp, hy, hel⟩
   ·simp
   ·have := sized_slice hw2 (j := 1) rfl (by simp [hy]; exact ⟨rfl, rfl⟩) Tryd.underlying37
    rw [b1] at this
    unfold reachBytes at this
    dsimp only
    omega
  ·rcases d2 with ⟨_, rfl⟩ | ⟨el, sp, hy, hel⟩
   ·simp
   ·have := sized_slice hw2 (j := 2) rfl (by simp [hy]; exact ⟨rfl, rfl⟩) Tryd.underlying37
    rw [b1] at this
    unfold reachBytes at this
    dsimp only
    omega
  ·rcases d3 with ⟨_, rfl⟩ | ⟨el, sp, hy, hel⟩
   ·simp
   ·have := sized_slice hw2 (j := 3) rfl (by simp [hy]; exact ⟨rfl, rfl⟩) Tryd.underlying50
    rw [b3] at this
    unfold reachBytes at this
    dsimp only
    omega
theorem read_txn {v : Value} {d : DataW H} {p : List MemPlace} (hv : Value.okWide Tryd.prog W .any base 55 v)
    (h : DataW.Trod enc Tryd.prog W 0 (fun _ => true) true 55 v d p) (hw : (d.weights Tryd.prog 55).all (· ≤ reachBytes) = true) : ∃ t : Txn, RTxn W v t := by
 obtain ⟨cs, rfl, hsz⟩ := okWide_struct Tryd.underlying55 hv
 obtain ⟨fuel, hf⟩ := h
 have hsz' : cs.size = 10 := hsz.trans (by kernel_rfl)
 obtain ⟨ls⟩ := cs
 have hf' : DataW.trod enc Tryd.prog W 0 (fun _ => true) true fuel 55 ls = some (d, p) := hf
 obtain ⟨tv, hc, hok⟩ := read_txnCells (by simpa using hsz') hf'
 refine ⟨tv.t, ?_⟩
 have hk := hok hw
 rw [hc]
 exact hk
end
end Go.Proofs.YtjhmfljlclajnacDoor
namespace Wb
open Go Go.RowKit
theorem Blk.sets {t : TypeId} {b : Nat} : ∀ (vs : List Value) (o : Nat) (w : World) (cur : Array Value), Blk w b cur t → o + vs.length ≤ cur.size → Blk (w.setCells b o vs) b (cur.toList.take o ++ vs ++ cur.toList.drop (o + vs.length)).toArray t
 | [], o, w, cur, h, _ => by simpa [World.setCells] using h
 | v :: r, o, w, cur, h, hl => by
  have h2 := Blk.sets r (o + 1) (w.setCell ⟨b, o, none⟩ v) _ (h.set o v) (by simp at hl ⊢; omega)
  have e := list_seg_step cur.toList o v r (by simp at hl ⊢; omega)
  rw [World.setCells]
  rw [Array.toList_setIfInBounds] at h2
  rw [e] at h2
  exact h2
theorem Below.sets {B : Nat} {w : World} (b : Nat) (hb : B ≤ b) : ∀ (vs : List Value) (o : Nat) (w' : World), Below B w w' → Below B w (w'.setCells b o vs)
 | [], _, _, h => h
 | v :: r, o, w', h => Below.sets b hb r (o + 1) _ (h.setCell hb v)
theorem Blk.sets_other {t : TypeId} {b g : Nat} {cur : Array Value} (hne : g ≠ b) : ∀ (vs : List Value) (o : Nat) (w : World), Blk w g cur t → Blk (w.setCells b o vs) g cur t
 | [], _, _, h => h
 | v :: r, o, w, h => Blk.sets_other hne r (o + 1) _ (h.set_other _ v hne)
section
variable {α : Type} {f : α → List Value} {base : Nat} {e : TypeId} {c : Nat} {w w' : World} {v : Value} {l : List α}
theorem Own.row (h : Own f base e c w v l) (h0 : 0 < l.length) : ∃ g cap cur, v = .slice (some ⟨g, 0, none⟩) l.length cap ∧ base ≤ g ∧ Blk w g cur e ∧ l.length ≤ cap ∧ cap ≤ maxLen ∧ cur.size = cap * c ∧ cur.toList.take (l.length * c) = l.flatMap f := by
 obtain ⟨h1, h2⟩ := h
 rcases h2 with ⟨rfl, h3⟩ | ⟨g, cap, cur, rfl, hb, hg, hn, hc, hs, ht⟩
 ·omega
 ·exact ⟨g, cap, cur, rfl, hb, hg, hn, hc, hs, ht⟩
def OwnE (f : α → List Value) (base : Nat) (e : TypeId) (c : Nat) (w : World) (v : Value) (l : List α) : Prop := Own f base e c w v l ∨ (l = [] ∧ ∃ a, v = .slice a 0 0)
theorem OwnE.reads (h : OwnE f base e c w v l) : RL f w v l := by
 rcases h with h | ⟨rfl, a, rfl⟩
 ·exact h.reads
 ·exact ⟨a, 0, rfl, Nat.le_refl _, by unfold maxLen; omega, .inl rfl⟩
theorem OwnE.below (h : OwnE f base e c w v l) (hb : Below w.heap.size w w') : OwnE f base e c w' v l := h.imp (fun h => h.below hb) id
theorem OwnE.mono (h : OwnE f base e c w v l) {b2 : Nat} (hb : b2 ≤ base) : OwnE f b2 e c w v l := h.imp (fun h => h.mono hb) id
theorem OwnE.setCell (h : OwnE f base e c w v l) {p : Addr} (hp : p.block < base) (u : Value) : OwnE f base e c (w.setCell p u) v l := h.imp (fun h => h.setCell hp u) id
theorem OwnE.form (h : OwnE f base e c w v l) : ∃ a cap, v = .slice a l.length cap := by
 obtain ⟨a, cap, hv, _, _⟩ := h.reads.form
 exact ⟨a, cap, hv⟩
theorem OwnE.row (h : OwnE f base e c w v l) (h0 : 0 < l.length) : Own f base e c w v l := by
 rcases h with h | ⟨rfl, _⟩
 ·exact h
 ·simp at h0
end
structure Mv (S : List Nat) (w w' : World) : Prop where
 os : w'.os = w.os
 tape : w'.tape = w.tape
 output : w'.output = w.output
 size : w.heap.size ≤ w'.heap.size
 block : ∀ k, k < w.heap.size → k ∉ S → w'.heap[k]? = w.heap[k]?
theorem Mv.refl (S : List Nat) (w : World) : Mv S w w := ⟨rfl, rfl, rfl, Nat.le_refl _, fun _ _ _ => rfl⟩
theorem Mv.below {w w' : World} (h : Mv [] w w') : Below w.heap.size w w' := ⟨h.os, h.tape, h.output, h.size, fun k hk => h.block k hk (by simp)⟩
theorem Mv.ofBelow {S : List Nat} {w w' : World} (h : Below w.heap.size w w') : Mv S w w' := ⟨h.os, h.tape, h.output, h.size, fun k hk _ => h.block k hk⟩
theorem Mv.ofGrown {g : Nat} {w w' : World} (h : w.grownBy w' (some g)) : Mv [g] w w' := ⟨h.os, h.tape, h.output, h.size, fun k hk hn => h.block k hk (by simpa using hn)⟩
theorem Mv.mono {S S' : List Nat} {w w' : World} (h : Mv S w w') (hs : ∀ k, k ∈ S → k ∈ S') : Mv S' w w' := ⟨h.os, h.tape, h.output, h.size, fun k hk hn => h.block k hk fun hh => hn (hs k hh)⟩
theorem Mv.then {S S' : List Nat} {a b c : World} (h : Mv S a b) (h2 : Mv S' b c) (hs : ∀ k, k ∈ S' → k ∈ S ∨ a.heap.size ≤ k) : Mv S a c :=
 ⟨h2.os.trans h.os, h2.tape.trans h.tape, h2.output.trans h.output, Nat.le_trans h.size h2.size, fun k hk hn =>
  (h2.block k (Nat.lt_of_lt_of_le hk h.size) fun hh => (hs k hh).elim hn (fun hh => by omega)).trans (h.block k hk hn)⟩
theorem Mv.trans {S : List Nat} {a b c : World} (h : Mv S a b) (h2 : Mv S b c) : Mv S a c := h.then h2 fun _ h => .inl h
theorem Mv.drew {S : List Nat} {a b : World} (h : Mv S a b) : Mv S a b.drew := ⟨h.os, h.tape, h.output, h.size, h.block⟩
theorem Mv.drewN {S : List Nat} {a b : World} (h : Mv S a b) (n : Nat) : Mv S a (b.drewN n) := ⟨h.os, h.tape, h.output, h.size, h.block⟩
theorem Mv.alloc (S : List Nat) (w : World) (o : Obj) : Mv S w (w.alloc o) := Mv.ofBelow (bal (b0 w) o)
theorem Mv.set (w : World) (p : Addr) (v : Value) : Mv [p.block] w (w.setCell p v) :=
 ⟨rfl, rfl, rfl, by simp, fun k _ hn => Below.heap_setCell w p v k (by simpa using hn)⟩
theorem Mv.sets (g : Nat) : ∀ (vs : List Value) (o : Nat) (w : World), Mv [g] w (w.setCells g o vs)
 | [], _, w => Mv.refl _ w
 | v :: r, o, w => (Mv.set w ⟨g, o, none⟩ v).trans (Mv.sets g r (o + 1) _)
def vblk : Value → Option Nat
 | .slice (some a) _ _ => some a.block
 | _ => none
theorem Sl.mv {S : List Nat} {w w' : World} {v : Value} {n : Nat} {cs : List Value} (h : Sl w v n cs) (hm : Mv S w w') (hn : cs = [] ∨ ∀ b, vblk v = some b → b ∉ S) : Sl w' v n cs := by
 obtain ⟨a, cap, hv, h1, h2, h3⟩ := h
 refine ⟨a, cap, hv, h1, h2, ?_⟩
 rcases hn with hn | hn
 ·exact .inl hn
 rcases h3 with h3 | ⟨b, off, ha, hc⟩
 ·exact .inl h3
 ·refine .inr ⟨b, off, ha, fun j u hj => ?_⟩
  have h4 := hc j u hj
  have h5 := World.block_lt_of_cell? w _ h4
  rw [← h4]
  refine World.cell?_of_block (hm.block b h5 (hn b ?_))
  rw [hv, ha]; rfl
theorem Sl.lt {w : World} {v : Value} {n : Nat} {cs : List Value} (h : Sl w v n cs) : cs = [] ∨ ∀ b, vblk v = some b → b < w.heap.size := by
 obtain ⟨a, cap, hv, h1, h2, h3⟩ := h
 rcases h3 with h3 | ⟨b, off, ha, hc⟩
 ·exact .inl h3
 ·cases cs with
  | nil => exact .inl rfl
  | cons u r =>
   refine .inr fun b' hb => ?_
   rw [hv, ha] at hb
   cases hb
   exact World.block_lt_of_cell? w _ (hc 0 u rfl)
structure Ent where
 g : Nat
 cs : List Value
 t : TypeId
structure Rd where
 v : Value
 n : Nat
 cs : List Value
def Rd.of {α : Type} (f : α → List Value) (v : Value) (l : List α) : Rd := ⟨v, l.length, l.flatMap f⟩
structure St (S : List Nat) (w0 w : World) (L : List Ent) (R : List Rd) : Prop where
 mv : Mv S w0 w
 nd : (L.map Ent.g).Nodup
 blk : ∀ e ∈ L, Blk w e.g e.cs.toArray e.t
 own : ∀ e ∈ L, e.g ∈ S ∨ w0.heap.size ≤ e.g
 rd : ∀ r ∈ R, Sl w r.v r.n r.cs ∧ (r.cs = [] ∨ ∀ b, vblk r.v = some b → ∀ e ∈ L, e.g ≠ b)
section
variable {S : List Nat} {w0 w w' : World} {L : List Ent} {R : List Rd}
theorem St.start (S : List Nat) (w0 : World) : St S w0 w0 [] [] := ⟨Mv.refl _ _, List.nodup_nil, (fun _ h => absurd h List.not_mem_nil), (fun _ h => absurd h List.not_mem_nil), (fun _ h => absurd h List.not_mem_nil)⟩
theorem St.drew (h : St S w0 w L R) : St S w0 w.drew L R := ⟨h.mv.drew, h.nd, h.blk, h.own, h.rd⟩
theorem St.drewN (h : St S w0 w L R) (n : Nat) : St S w0 (w.drewN n) L R := ⟨h.mv.drewN n, h.nd, h.blk, h.own, h.rd⟩
theorem St.below (h : St [] w0 w L R) : Below w0.heap.size w0 w := h.mv.below
theorem Blk.mv {b : Nat} {cs : Array Value} {t : TypeId} (h : Blk w b cs t) (hm : Mv S w w') (hn : b ∉ S) : Blk w' b cs t := (hm.block b h.lt hn).trans h
theorem St.moved {S' : List Nat} (h : St S w0 w L R) (hm : Mv S' w w') (hs : ∀ k, k ∈ S' → k ∈ S ∨ w0.heap.size ≤ k) (hL : ∀ e ∈ L, e.g ∉ S') (hR : ∀ r ∈ R, r.cs = [] ∨ ∀ b, vblk r.v = some b → b ∉ S') : St S w0 w' L R :=
 ⟨h.mv.then hm hs, h.nd, fun e he => (h.blk e he).mv hm (hL e he), h.own, fun r hr => ⟨(h.rd r hr).1.mv hm (hR r hr), (h.rd r hr).2⟩⟩
theorem St.call (h : St S w0 w L R) (hb : Below w.heap.size w w') : St S w0 w' L R :=
 h.moved (S' := []) (Mv.ofBelow hb) (fun _ h => absurd h List.not_mem_nil) (fun _ _ => List.not_mem_nil) (fun _ _ => .inr fun _ _ => List.not_mem_nil)
theorem St.addR (h : St S w0 w L R) {v : Value} {n : Nat} {cs : List Value} (hv : Sl w v n cs) (hn : cs = [] ∨ ∀ b, vblk v = some b → ∀ e ∈ L, e.g ≠ b) : St S w0 w L (⟨v, n, cs⟩ :: R) :=
 ⟨h.mv, h.nd, h.blk, h.own, fun r hr => by
  rcases List.mem_cons.1 hr with rfl | hr
  ·exact ⟨hv, hn⟩
  ·exact h.rd r hr⟩
theorem St.addR0 (h : St [] w0 w L R) {v : Value} {n : Nat} {cs : List Value} (hv : Sl w0 v n cs) : St [] w0 w L (⟨v, n, cs⟩ :: R) := by
 refine h.addR (hv.below h.below) ?_
 rcases hv.lt with hl | hl
 ·exact .inl hl
 ·refine .inr fun b hb e he heq => ?_
  have := hl b hb
  rcases h.own e he with ho | ho
  ·cases ho
  ·omega
theorem St.addOwn (h : St S w0 w L R) (hb : Below w.heap.size w w') {α : Type} {f : α → List Value} {e : TypeId} {c : Nat} {v : Value} {l : List α} (ho : Own f w.heap.size e c w' v l) : St S w0 w' L (Rd.of f v l :: R) := by
 refine (h.call hb).addR ho.reads (.inr fun b hbv x hx heq => ?_)
 have hlt := (h.blk x hx).lt
 obtain ⟨_, h2⟩ := ho
 rcases h2 with ⟨rfl, _⟩ | ⟨g, cap, cur, rfl, hbg, _⟩
 ·cases hbv
 ·cases hbv
  have h3 : x.g = g := heq
  omega
theorem St.read (h : St S w0 w L R) {α : Type} {f : α → List Value} {v : Value} {l : List α} (hr : Rd.of f v l ∈ R) : RL f w v l := (h.rd _ hr).1
theorem St.at_ (h : St S w0 w L R) {g : Nat} {cs : List Value} {t : TypeId} (he : ⟨g, cs, t⟩ ∈ L) : Blk w g cs.toArray t := h.blk _ he
theorem St.cell (h : St S w0 w L R) {g : Nat} {cs : List Value} {t : TypeId} (he : ⟨g, cs, t⟩ ∈ L) (i : Nat) : w.cell? ⟨g, i, none⟩ = cs[i]? := by
 rw [(h.blk _ he).cell i]; simp
theorem St.free (h : St S w0 w L R) {g : Nat} {cs : List Value} {t : TypeId} (he : ⟨g, cs, t⟩ ∈ L) (i : Nat) : w.frozen? ⟨g, i, none⟩ = false := (h.blk _ he).free i
theorem St.k0 {g : Nat} {cs : List Value} {t : TypeId} (h : St S w0 w (⟨g, cs, t⟩ :: L) R) : Blk w g cs.toArray t := h.blk ⟨g, cs, t⟩ (by simp)
theorem St.k1 {e0 : Ent} {g : Nat} {cs : List Value} {t : TypeId} (h : St S w0 w (e0 :: ⟨g, cs, t⟩ :: L) R) : Blk w g cs.toArray t := h.blk ⟨g, cs, t⟩ (by simp)
theorem St.k2 {e0 e1 : Ent} {g : Nat} {cs : List Value} {t : TypeId} (h : St S w0 w (e0 :: e1 :: ⟨g, cs, t⟩ :: L) R) : Blk w g cs.toArray t := h.blk ⟨g, cs, t⟩ (by simp)
theorem St.k3 {e0 e1 e2 : Ent} {g : Nat} {cs : List Value} {t : TypeId} (h : St S w0 w (e0 :: e1 :: e2 :: ⟨g, cs, t⟩ :: L) R) : Blk w g cs.toArray t := h.blk ⟨g, cs, t⟩ (by simp)
theorem St.k4 {e0 e1 e2 e3 : Ent} {g : Nat} {cs : List Value} {t : TypeId} (h : St S w0 w (e0 :: e1 :: e2 :: e3 :: ⟨g, cs, t⟩ :: L) R) : Blk w g cs.toArray t := h.blk ⟨g, cs, t⟩ (by simp)
theorem St.r0 {α : Type} {f : α → List Value} {v : Value} {l : List α} (h : St S w0 w L (Rd.of f v l :: R)) : RL f w v l := h.read (v := v) (l := l) (f := f) (by simp)
theorem St.r1 {r0 : Rd} {α : Type} {f : α → List Value} {v : Value} {l : List α} (h : St S w0 w L (r0 :: Rd.of f v l :: R)) : RL f w v l := h.read (v := v) (l := l) (f := f) (by simp)
theorem St.r2 {r0 r1 : Rd} {α : Type} {f : α → List Value} {v : Value} {l : List α} (h : St S w0 w L (r0 :: r1 :: Rd.of f v l :: R)) : RL f w v l := h.read (v := v) (l := l) (f := f) (by simp)
theorem St.alloc (h : St S w0 w L R) (cs : List Value) (t : TypeId) : St S w0 (w.alloc (.cells cs.toArray t)) (⟨w.heap.size, cs, t⟩ :: L) R := by
 have h1 := h.call (bal (b0 w) (.cells cs.toArray t))
 refine ⟨h1.mv, ?_, fun e he => ?_, fun e he => ?_, fun r hr => ⟨(h1.rd r hr).1, ?_⟩⟩
 ·rw [List.map_cons, List.nodup_cons]
  refine ⟨fun hm => ?_, h.nd⟩
  obtain ⟨e, he, heq⟩ := List.mem_map.1 hm
  have := (h.blk e he).lt
  simp only at heq; omega
 ·rcases List.mem_cons.1 he with rfl | he
  ·exact Blk.new w _ _
  ·exact h1.blk e he
 ·rcases List.mem_cons.1 he with rfl | he
  ·exact .inr h.mv.size
  ·exact h.own e he
 ·rcases (h.rd r hr).1.lt with hl | hl
  ·exact .inl hl
  ·rcases (h.rd r hr).2 with h2 | h2
   ·exact .inl h2
   ·refine .inr fun b hb e he => ?_
    rcases List.mem_cons.1 he with rfl | he
    ·have := hl b hb; show w.heap.size ≠ b; omega
    ·exact h2 b hb e he
def upd : Nat → List Value → List Value → List Value
 | i + 1, vs, c :: cs => c :: upd i vs cs
 | 0, v :: vs, _ :: cs => v :: upd 0 vs cs
 | _, _, cs => cs
theorem upd_seg : ∀ (i : Nat) (vs cs : List Value), i + vs.length ≤ cs.length → upd i vs cs = cs.take i ++ vs ++ cs.drop (i + vs.length)
 | i + 1, vs, c :: cs, h => by
  have := upd_seg i vs cs (by simp at h; omega)
  simp only [upd, this, List.take_succ_cons, List.cons_append, List.cons.injEq, true_and]
  rw [show i + 1 + vs.length = (i + vs.length) + 1 by omega, List.drop_succ_cons]
 | 0, [], cs, h => by cases cs <;> simp [upd]
 | 0, v :: vs, c :: cs, h => by
  have := upd_seg 0 vs cs (by simp at h; omega)
  simp only [Nat.zero_add, List.take_zero, List.nil_append] at this
  simp [upd, this]
 | i + 1, vs, [], h => by simp at h
 | 0, v :: vs, [], h => by simp at h
theorem St.wrote (A B : List Ent) {g : Nat} {cs : List Value} {t : TypeId} (h : St S w0 w (A ++ ⟨g, cs, t⟩ :: B) R) (i : Nat) (vs : List Value) (hi : i + vs.length ≤ cs.length) : St S w0 (w.setCells g i vs) (A ++ ⟨g, upd i vs cs, t⟩ :: B) R := by
 have hm := Mv.sets g vs i w
 have hg : ⟨g, cs, t⟩ ∈ A ++ ⟨g, cs, t⟩ :: B := by simp
 have hnd := h.nd
 rw [List.map_append, List.map_cons, List.nodup_append] at hnd
 obtain ⟨n1, n2, n3⟩ := hnd
 rw [List.nodup_cons] at n2
 have hne : ∀ e, e ∈ A ∨ e ∈ B → e.g ≠ g := fun e he heq => by
  rcases he with he | he
  ·exact n3 _ (List.mem_map_of_mem he) g (by simp) heq
  ·have h5 := List.mem_map_of_mem (f := Ent.g) he
   rw [heq] at h5
   exact n2.1 h5
 have hsame : (A ++ ⟨g, upd i vs cs, t⟩ :: B).map Ent.g = (A ++ ⟨g, cs, t⟩ :: B).map Ent.g := by simp
 have hmem : ∀ e, e ∈ A ++ (⟨g, upd i vs cs, t⟩ : Ent) :: B → e = ⟨g, upd i vs cs, t⟩ ∨ ((e ∈ A ∨ e ∈ B) ∧ e ∈ A ++ (⟨g, cs, t⟩ : Ent) :: B) := fun e he => by
  simp only [List.mem_append, List.mem_cons] at he ⊢
  rcases he with he | he | he
  ·exact .inr ⟨.inl he, .inl he⟩
  ·exact .inl he
  ·exact .inr ⟨.inr he, .inr (.inr he)⟩
 refine ⟨h.mv.then hm (fun k hk => ?_), by rw [hsame]; exact h.nd, fun e he => ?_, fun e he => ?_, fun r hr => ?_⟩
 ·obtain rfl : k = g := by simpa using hk
  exact h.own _ hg
 ·rcases hmem e he with rfl | ⟨he, he2⟩
  ·have := Blk.sets (t := t) (b := g) vs i w cs.toArray (h.blk _ hg) (by simpa using hi)
   rw [← upd_seg i vs cs hi] at this
   exact this
  ·exact Blk.sets_other (hne e he) vs i w (h.blk e he2)
 ·rcases hmem e he with rfl | ⟨he, he2⟩
  ·exact h.own ⟨g, cs, t⟩ hg
  ·exact h.own e he2
 ·obtain ⟨h1, h2⟩ := h.rd r hr
  rcases h2 with h2 | h2
  ·exact ⟨h1.mv hm (.inl h2), .inl h2⟩
  ·refine ⟨h1.mv hm (.inr fun b hb hbg => ?_), .inr fun b hb e he => ?_⟩
   ·obtain rfl : b = g := by simpa using hbg
    exact h2 b hb _ hg rfl
   ·rcases hmem e he with rfl | ⟨he, he2⟩
    ·exact h2 b hb ⟨g, cs, t⟩ hg
    ·exact h2 b hb e he2
end
class AggT (P : Program) (T : TypeId) (n : outParam Nat) : Prop where
 row : ∃ d, P.underlying T = some d ∧ d.isRow = true
 size : (P.info? T).map (·.size) = some n
class OneT (P : Program) (T : TypeId) : Prop where
 row : ∃ d, P.underlying T = some d ∧ d.isRow = false
 size : (P.info? T).map (·.size) = some 1
class ZeroT (P : Program) (T : TypeId) (cs : outParam (List Value)) : Prop where
 zero : ((P.info? T).bind (·.zero)).map (·.cells) = some cs.toArray
def nth : List Value → Nat → Option Value
 | [], _ => none
 | v :: _, 0 => some v
 | _ :: r, n + 1 => nth r n
theorem nth_get : ∀ (l : List Value) (i : Nat), nth l i = l[i]?
 | [], i => by simp [nth]
 | v :: r, 0 => rfl
 | v :: r, i + 1 => by rw [List.getElem?_cons_succ]; exact nth_get r i
inductive EvR (a : Act) : Operand → Value → Prop
 | tmp {l : List Value} {d : List Deferred} {n : Nat} {v : Value} : a = ⟨l.toArray, d⟩ → nth l n = some v → EvR a (.tmp n) v
 | const (v : Value) : EvR a (.const v) v
theorem EvR.eval {a : Act} {x : Operand} {v : Value} (h : EvR a x v) : a.eval x = v := by
 cases h with
 | tmp ha hv =>
  subst ha
  rw [nth_get] at hv
  simp [Act.eval, hv]
 | const v => rfl
section
variable {P : Program} {ops : Array Oper} {Q : Exit → Act → World → Prop} {o : Oper} {rest : List Oper} {a : Act} {S : List Nat} {w0 w : World} {L : List Ent} {R : List Rd}
theorem run_loadOne {T : TypeId} [hT : OneT P T] {b i : Nat} {v : Value} (hc : w.cell? ⟨b, i, none⟩ = some v) : (loadVar T ⟨b, i, none⟩).run P w = .ok v w := by
 obtain ⟨⟨d, hu, hd⟩, _⟩ := hT
 have hagg : (isAgg T).run P w = .ok false w := by
  unfold isAgg
  rw [Sem.run_bind, run_underlying hu w]
  cases d <;> simp_all
 have hl : (load ⟨b, i, none⟩).run P w = .ok v w := by
  have := run_loadCells_list (P := P) w ⟨b, i, none⟩ [v] (fun j u hj => by
   cases j with
   | zero => simp at hj; subst hj; rw [Addr.add_mid]; exact hc
   | succ j => simp at hj)
  simp only [loadCells, List.length_cons, List.length_nil, loadCellsFrom, Sem.run_bind, Addr.add_mid, Nat.add_zero] at this
  cases hr : (load ⟨b, i, none⟩).run P w with
  | ok x w' =>
   rw [hr] at this
   simp only [Result.andThen_ok, Sem.run_pure] at this
   simp at this
   obtain ⟨h1, h2⟩ := this
   rw [h1, h2]
  | halt x w' => rw [hr] at this; simp at this
 simp only [loadVar, Sem.run_bind, hagg, Result.andThen_ok]
 exact hl
def isLoad : Op → Bool
 | .load _ _ => true
 | _ => false
def isStore : Op → Bool
 | .store _ _ _ => true
 | _ => false
def isMem : Op → Bool
 | .load _ _ => true
 | .store _ _ _ => true
 | .alloc _ => true
 | .box _ _ => true
 | _ => false
theorem at_mem (_ : isMem o.op = true) (h : wpList P ops Q (o :: rest) a w) : wpList P ops Q (o :: rest) a w := h
theorem at_load (_ : isLoad o.op = true) (h : wpList P ops Q (o :: rest) a w) : wpList P ops Q (o :: rest) a w := h
theorem at_store (_ : isStore o.op = true) (h : wpList P ops Q (o :: rest) a w) : wpList P ops Q (o :: rest) a w := h
theorem m_load1 (hw : Region.wanted o (yielded ops a.tmps) = true) (T : TypeId) (x : Operand) (ho : o.op = .load T x) {g i : Nat} (hx : a.eval x = .pointer (some ⟨g, i, none⟩)) [OneT P T] (X : St S w0 w L R)
    {cs : List Value} {t : TypeId} (he : ⟨g, cs, t⟩ ∈ L) {v : Value} (hv : nth cs i = some v) (h : wpList P ops Q rest (a.put o.dst v) w) : wpList P ops Q (o :: rest) a w :=
 BigFrame.wpList_want hw fun K hK => by
  have hc : w.cell? ⟨g, i, none⟩ = some v := by rw [X.cell he, ← nth_get]; exact hv
  unfold Oper.wp execOp
  simp only [ho, hx, Instr.loadAt, Instr.sureAddr, Sem.run_bind, Sem.run_pure, Result.andThen_ok, run_loadOne (T := T) hc]
  exact hK _ _ h
theorem m_loadN (hw : Region.wanted o (yielded ops a.tmps) = true) (T : TypeId) (x : Operand) (ho : o.op = .load T x) {g i : Nat} (hx : a.eval x = .pointer (some ⟨g, i, none⟩)) {n : Nat} [hT : AggT P T n] (X : St S w0 w L R)
    {cs : List Value} {t : TypeId} (he : ⟨g, cs, t⟩ ∈ L) (hi : i + n ≤ cs.length) (h : wpList P ops Q rest (a.put o.dst (.agg ((cs.drop i).take n).toArray)) w) : wpList P ops Q (o :: rest) a w := by
 obtain ⟨⟨d, hu, hd⟩, hs⟩ := hT
 refine BigFrame.wpList_want hw fun K hK => wp_load_mid T x ho g i hx ((cs.drop i).take n) d (fun j v hj => ?_) hu hd (by rw [hs, List.length_take, List.length_drop]; congr 1; omega) (hK _ _ h)
 rw [X.cell he]
 rw [List.getElem?_take] at hj
 split at hj
 ·rw [List.getElem?_drop] at hj; exact hj
 ·cases hj
theorem St.there (X : St S w0 w L R) {g : Nat} {cs : List Value} {t : TypeId} (he : ⟨g, cs, t⟩ ∈ L) {i n : Nat} (h : i + n ≤ cs.length) : w.there g i n := fun j hj => by
 refine ⟨?_, X.free he _⟩
 rw [X.cell he, List.getElem?_eq_getElem (by omega)]; rfl
theorem m_storeN (A B : List Ent) {g : Nat} {cs : List Value} {t : TypeId} (hw : Region.wanted o (yielded ops a.tmps) = true) (T : TypeId) (x y : Operand) (ho : o.op = .store T x y) {i : Nat} (hx : a.eval x = .pointer (some ⟨g, i, none⟩)) {n : Nat} [hT : AggT P T n]
    {vs : List Value} (hy : a.eval y = .agg vs.toArray) (X : St S w0 w (A ++ ⟨g, cs, t⟩ :: B) R) (hn : vs.length = n) (hi : i + vs.length ≤ cs.length) (h1 : vs.all (·.oneCell') = true)
    (h : ∀ w', St S w0 w' (A ++ ⟨g, upd i vs cs, t⟩ :: B) R → wpList P ops Q rest (a.put o.dst undef) w') : wpList P ops Q (o :: rest) a w :=
 BigFrame.wpList_want hw fun K hK => wp_store_mid T x y ho g i vs.toArray hx hy (X.there (cs := cs) (t := t) (by simp) (by simpa using hi)) (by rw [hT.size]; simp [hn]) (by simpa using h1) (hK _ _ (h _ (by simpa using X.wrote A B i vs hi)))
theorem run_storeOne {T : TypeId} [hT : OneT P T] {b i : Nat} {v : Value} (ht : w.there b i 1) (h1 : v.oneCell' = true) (hc : v.cells = #[v]) : (storeVar T ⟨b, i, none⟩ v).run P w = .ok () (w.setCells b i [v]) := by
 have := run_storeCells_cells (P := P) b i [v] 0 w (fun j hj => by simpa using (ht j (by simpa using hj)).1) (fun j hj => by simpa using (ht j (by simpa using hj)).2) (fun u hu => by simp at hu; subst hu; exact h1)
 have hi := hT.size
 cases hq : P.info? T with
 | none => simp [hq] at hi
 | some x =>
  have hs : x.size = 1 := by simpa [hq] using hi
  simp only [Nat.add_zero] at this
  simp [storeVar, Go.sizeOf, typeInfo, hq, hc, hs, this]
theorem m_store1 (A B : List Ent) {g : Nat} {cs : List Value} {t : TypeId} (hw : Region.wanted o (yielded ops a.tmps) = true) (T : TypeId) (x y : Operand) (ho : o.op = .store T x y) {i : Nat} (hx : a.eval x = .pointer (some ⟨g, i, none⟩)) [hT : OneT P T]
    {v : Value} (hy0 : EvR a y v) (X : St S w0 w (A ++ ⟨g, cs, t⟩ :: B) R) (hi : i < cs.length) (h1 : v.oneCell' = true) (hc : v.cells = #[v])
    (h : ∀ w', St S w0 w' (A ++ ⟨g, upd i [v] cs, t⟩ :: B) R → wpList P ops Q rest (a.put o.dst undef) w') : wpList P ops Q (o :: rest) a w :=
 BigFrame.wpList_want hw fun K hK => by
  have hy := hy0.eval
  have ht := X.there (g := g) (cs := cs) (t := t) (i := i) (n := 1) (by simp) (by omega)
  unfold Oper.wp execOp
  simp only [ho, hx, hy, Instr.storeAt, Instr.sureAddr, Sem.run_bind, Sem.run_pure, Result.andThen_ok, run_storeOne (T := T) ht h1 hc]
  exact hK _ _ (h _ (by simpa using X.wrote A B i [v] (show i + 1 ≤ cs.length from hi)))
theorem m_alloc (hw : Region.wanted o (yielded ops a.tmps) = true) (T : TypeId) (ho : o.op = .alloc T) {cs : List Value} [hT : ZeroT P T cs] (X : St S w0 w L R)
    (h : ∀ g w', St S w0 w' (⟨g, cs, T⟩ :: L) R → wpList P ops Q rest (a.put o.dst (.pointer (some ⟨g, 0, none⟩))) w') : wpList P ops Q (o :: rest) a w :=
 BigFrame.wpList_want hw fun K hK => by
  have hz := hT.zero
  cases hq : P.info? T with
  | none => simp [hq] at hz
  | some x =>
   cases hs : x.zero with
   | none => simp [hq, hs] at hz
   | some z =>
    have hc : z.cells = cs.toArray := by simpa [hq, hs] using hz
    unfold Oper.wp execOp
    simp only [ho, Instr.alloc, zeroValue, typeInfo, newVar, newRow, newObj, Sem.run_bind, Sem.run_pure, Result.andThen_ok]
    simp [hq, hs, hc]
    exact hK _ _ (h _ _ (X.alloc cs T))
theorem m_box (hw : Region.wanted o (yielded ops a.tmps) = true) (T : TypeId) (x : Operand) (ho : o.op = .box T x) {v : Value} (hx0 : EvR a x v) {cs : List Value} (hc : v.cells = cs.toArray) (X : St S w0 w L R)
    (h : ∀ g w', St S w0 w' (⟨g, cs, T⟩ :: L) R → wpList P ops Q rest (a.put o.dst (.pointer (some ⟨g, 0, none⟩))) w') : wpList P ops Q (o :: rest) a w :=
 BigFrame.wpList_want hw fun K hK => by
  have hx := hx0.eval
  unfold Oper.wp execOp
  simp only [ho, hx, hc, Instr.box, newVar, newRow, newObj, Sem.run_bind, Sem.run_pure, Result.andThen_ok]
  exact hK _ _ (h _ _ (X.alloc cs T))
theorem St.whole (X : St S w0 w L R) {T : TypeId} {n : Nat} [hT : AggT P T n] {g : Nat} {cs : List Value} {t : TypeId} (he : ⟨g, cs, t⟩ ∈ L) (hn : cs.length = n) : (loadVar T ⟨g, 0, none⟩).run P w = .ok (.agg cs.toArray) w := by
 obtain ⟨⟨d, hu, hd⟩, hs⟩ := hT
 exact run_loadVar_mid w g 0 T cs d (fun j v hj => by rw [Nat.zero_add, X.cell he]; exact hj) hu hd (by rw [hs, hn])
theorem m_ret1 {fn : Func} {F : Ending → World → Prop} {p : Tmp} {T : TypeId} (hr : fn.results = #[.cell p T]) {g : Nat} (hp : EvR a (.tmp p) (.pointer (some ⟨g, 0, none⟩))) {n : Nat} [hT : AggT P T n] (X : St S w0 w L R)
    {cs : List Value} {t : TypeId} (he : ⟨g, cs, t⟩ ∈ L) (hn : cs.length = n) (hd : a.defers = []) (h : F (.returned (.agg cs.toArray)) w) : bodyPost P fn F .ret a w := by
 have hp' : a.tmps[p]?.getD undef = .pointer (some ⟨g, 0, none⟩) := by have := hp.eval; simpa [Act.eval] using this
 refine bodyPost_ret (v := .agg cs.toArray) ?_ hd h
 simp [results, hr, hp', asAddr, X.whole (T := T) he hn]
theorem m_ret3 {fn : Func} {F : Ending → World → Prop} {p q r : Tmp} {T : TypeId} (hr : fn.results = #[.cell p T, .tmp q, .tmp r]) {g : Nat} (hp : EvR a (.tmp p) (.pointer (some ⟨g, 0, none⟩))) {v u : Value} (hq : EvR a (.tmp q) v) (hu : EvR a (.tmp r) u) {n : Nat} [hT : AggT P T n] (X : St S w0 w L R)
    {cs : List Value} {t : TypeId} (he : ⟨g, cs, t⟩ ∈ L) (hn : cs.length = n) (hd : a.defers = []) (h : F (.returned (.tuple #[.agg cs.toArray, v, u])) w) : bodyPost P fn F .ret a w := by
 have hp' : a.tmps[p]?.getD undef = .pointer (some ⟨g, 0, none⟩) := by have := hp.eval; simpa [Act.eval] using this
 have hq' : a.tmps[q]?.getD undef = v := by have := hq.eval; simpa [Act.eval] using this
 have hu' : a.tmps[r]?.getD undef = u := by have := hu.eval; simpa [Act.eval] using this
 refine bodyPost_ret (v := .tuple #[.agg cs.toArray, v, u]) ?_ hd h
 simp [results, hr, hp', hq', hu', asAddr, X.whole (T := T) he hn]
end
theorem zA {α : Type} (l : List α) (i : Nat) (a : α) : l.toArray.setIfInBounds i a = (l.set i a).toArray := by simp
theorem zB {α : Type} (x a : α) (l : List α) (i : Nat) : (x :: l).set (i + 1) a = x :: l.set i a := rfl
theorem zC {α : Type} (x a : α) (l : List α) : (x :: l).set 0 a = a :: l := rfl
theorem zD {α : Type} (x : α) (l : List α) (i : Nat) : (x :: l).drop (i + 1) = l.drop i := rfl
theorem zE {α : Type} (l : List α) : l.drop 0 = l := rfl
theorem zF {α : Type} (x : α) (l : List α) (i : Nat) : (x :: l).take (i + 1) = x :: l.take i := rfl
theorem zG {α : Type} (l : List α) : l.take 0 = [] := rfl
theorem Zfl {A : Prop} (h : A := by repeat (first | exact .head _ | apply List.Mem.tail)) : A := h
theorem Zev {A : Prop} (h : A := by first | exact EvR.const _ | exact EvR.tmp rfl rfl) : A := h
section
variable {P : Program} {ops : Array Oper} {Q : Exit → Act → World → Prop} {md : Region.Mode} {S : World → Prop} {brk : List Nat}
def waitB (md : Region.Mode) (ops : Array Oper) (b i : Nat) : Bool := ((ops[b]?).map fun o => o.after.any fun e => Region.binds md e && e.on == i).getD true
def AnyS (P : Program) (md : Region.Mode) (ops : Array Oper) (Q : Exit → Act → World → Prop) (S : World → Prop) (brk : List Nat) : Nat → Array Bool → Act → World → Prop
 | 0, x, a, w => Region.ready md ops x = [] ∧ Q .normal a w
 | n + 1, x, a, w => (Region.ready md ops x = [] → Q .normal a w) ∧
     ∀ i ∈ Region.ready md ops x, wpOp P ops Q i (fun b v => (brk.contains i = false → S w → S v) ∧ AnyS P md ops Q S brk n (x.setIfInBounds i true) b v) a w
theorem AnyS.any : ∀ (n : Nat) (x : Array Bool) (a : Act) (w : World), AnyS P md ops Q S brk n x a w → wpAny P md ops Q n x a w
 | 0, _, _, _, h => h
 | n + 1, x, a, w, h => ⟨h.1, fun i hi => wpOp_mono (fun b v hh => AnyS.any n _ b v hh.2) (h.2 i hi)⟩
theorem waitB_spec {b i : Nat} {o : Oper} (ho : ops[b]? = some o) (h : waitB md ops b i = true) : ∃ e ∈ o.after, Region.binds md e = true ∧ e.on = i := by
 unfold waitB at h
 rw [ho] at h
 obtain ⟨e, he, hb⟩ := Array.any_eq_true'.1 h
 rw [Bool.and_eq_true, beq_iff_eq] at hb
 exact ⟨e, he, hb.1, hb.2⟩
def Loose (md : Region.Mode) (ops : Array Oper) (x : Array Bool) (i : Nat) (o : Oper) : Prop :=
 ∀ j oj, ops[j]? = some oj → j ≠ i → x.getD j true = false → (∀ e ∈ oj.after, Region.binds md e = true → e.on ≠ i) → o.apart ops oj = true
theorem Loose.set {x : Array Bool} {i j : Nat} {o : Oper} (h : Loose md ops x i o) (hj : x.getD j true = false) : Loose md ops (x.setIfInBounds j true) i o := fun k ok hk hne hun hno => by
 by_cases e : j = k
 ·subst e; exact h _ ok hk hne hj hno
 ·exact h k ok hk hne (by rw [getD_set_ne true e] at hun; exact hun) hno
theorem AnyS.take {T : World → Prop} {i : Nat} {o : Oper} {v : Value} (hi : ops[i]? = some o) (hsel : ∀ (j : Nat) (o : Oper) cs b, ops[j]? = some o → o.op ≠ .select cs b)
    (hQ : ∀ c a w, Q (.panic c) (a.put o.dst v) w → Q (.panic c) a w) (hT : (T = S ∧ brk.all (fun b => waitB md ops b i) = true) ∨ ∀ w, T w) :
    ∀ (n : Nat) (x : Array Bool) (a : Act) (w : World), Loose md ops x i o → i ∈ Region.ready md ops x → YieldsIf P ops T o v a → T w →
      AnyS P md ops Q S brk n (x.setIfInBounds i true) (a.put o.dst v) w → AnyS P md ops Q S brk (n + 1) x a w
 | n, x, a, w, hl, hr, hy, hS, H => by
  have hne : Region.ready md ops x ≠ [] := fun e => by rw [e] at hr; cases hr
  refine ⟨fun e => absurd e hne, fun j hj => ?_⟩
  by_cases e : j = i
  ·subst e
   exact hy.wpOp hi hS ⟨fun _ h => h, H⟩
  ·have hj2 := ready_mono hj e
   obtain ⟨hju, oj, hoj, hall⟩ := mem_ready.1 hj
   have hiu := (mem_ready.1 hr).1
   have hnot : ∀ d ∈ oj.after, Region.binds md d = true → d.on ≠ i := fun d hd hb he => by
    have h1 := hall d hd hb
    rw [he] at h1
    rcases Nat.lt_or_ge i x.size with h3 | h3
    ·simp [h3] at hiu h1; rw [hiu] at h1; cases h1
    ·simp [Array.getElem?_eq_none h3] at h1
   have next : ∀ u, (brk.contains j = false → S w → S u) → T u := fun u hu => by
    rcases hT with ⟨rfl, hbrk⟩ | hT
    ·refine hu ?_ hS
     cases hb : brk.contains j with
     | false => rfl
     | true =>
      have h1 := List.all_eq_true.1 hbrk j (by simpa using hb)
      obtain ⟨d, hd, hb1, hb2⟩ := waitB_spec hoj h1
      exact absurd hb2 (hnot d hd hb1)
    ·exact hT u
   cases n with
   | zero => rw [H.1] at hj2; cases hj2
   | succ n =>
    have h1 := H.2 j hj2
    have h2 := wpOp_putIf hoj (hl j oj hoj e hju hnot) (fun cs b => hsel i o cs b hi) (fun cs b => hsel j oj cs b hoj) hQ hy h1
    refine wpOp_mono (fun b u hh => ?_) h2
    obtain ⟨hy2, hS2, H2⟩ := hh
    refine ⟨hS2, AnyS.take hi hsel hQ hT n _ b u (hl.set hju) (ready_mono hr (Ne.symm e)) hy2 (next u hS2) ?_⟩
    rw [Array.setIfInBounds_comm _ _ e]
    exact H2
def Seq (P : Program) (ops : Array Oper) (Q : Exit → Act → World → Prop) (S : World → Prop) (brk eff lds : List Nat) : List Nat → Act → World → Prop
 | [], a, w => Q .normal a w
 | i :: r, a, w => if eff.contains i = true then wpOp P ops Q i (fun b v => (brk.contains i = false → S w → S v) ∧ Seq P ops Q S brk eff lds r b v) a w
     else if lds.contains i = true then ∃ o v, ops[i]? = some o ∧ YieldsIf P ops S o v a ∧ S w ∧ (∀ c a w, Q (.panic c) (a.put o.dst v) w → Q (.panic c) a w) ∧ Seq P ops Q S brk eff lds r (a.put o.dst v) w
     else ∃ o v, ops[i]? = some o ∧ YieldsIf P ops (fun _ => True) o v a ∧ (∀ c a w, Q (.panic c) (a.put o.dst v) w → Q (.panic c) a w) ∧ Seq P ops Q S brk eff lds r (a.put o.dst v) w
def ordOk (md : Region.Mode) (ops : Array Oper) (brk eff lds : List Nat) : Array Bool → List Nat → Bool
 | x, [] => (Region.ready md ops x).isEmpty
 | x, i :: r => (if eff.contains i = true then Region.ready md ops x == [i] else (Region.ready md ops x).contains i && Region.free md ops x i && (!lds.contains i || brk.all (fun b => waitB md ops b i))) && ordOk md ops brk eff lds (x.setIfInBounds i true) r
theorem Seq.anyS {eff lds : List Nat} (hs : Region.noSelect ops = true) : ∀ (r : List Nat) (x : Array Bool) (a : Act) (w : World), ordOk md ops brk eff lds x r = true → Seq P ops Q S brk eff lds r a w → AnyS P md ops Q S brk r.length x a w
 | [], x, a, w, hk, h => ⟨List.isEmpty_iff.1 hk, h⟩
 | i :: r, x, a, w, hk, h => by
  unfold ordOk at hk
  rw [Bool.and_eq_true] at hk
  obtain ⟨h1, h2⟩ := hk
  unfold Seq at h
  split at h
  ·rename_i he
   rw [if_pos he] at h1
   have hr : Region.ready md ops x = [i] := by simpa using h1
   refine ⟨fun e => (by rw [hr] at e; cases e), fun j hj => ?_⟩
   rw [hr] at hj
   obtain rfl : j = i := by simpa using hj
   exact wpOp_mono (fun b v hh => ⟨hh.1, Seq.anyS hs r _ b v h2 hh.2⟩) h
  ·rename_i he
   rw [if_neg he, Bool.and_eq_true, Bool.and_eq_true] at h1
   obtain ⟨⟨h3, h4⟩, h5⟩ := h1
   split at h
   ·rename_i hl
    rw [hl, Bool.not_true, Bool.false_or] at h5
    obtain ⟨o, v, hi, hy, hS, hQ, hn⟩ := h
    exact AnyS.take hi (Region.noSelect_spec hs) hQ (.inl ⟨rfl, h5⟩) r.length x a w (fun j oj hj hne hun hno => Region.free_spec hi h4 j oj hj hne hun hno) (by simpa using h3) hy hS (Seq.anyS hs r _ _ _ h2 hn)
   ·obtain ⟨o, v, hi, hy, hQ, hn⟩ := h
    exact AnyS.take hi (Region.noSelect_spec hs) hQ (.inr fun _ => trivial) r.length x a w (fun j oj hj hne hun hno => Region.free_spec hi h4 j oj hj hne hun hno) (by simpa using h3) hy trivial (Seq.anyS hs r _ _ _ h2 hn)
structure Kept (L0 : List Ent) (R0 : List Rd) (w : World) : Prop where
 l : ∀ e ∈ L0, Blk w e.g e.cs.toArray e.t
 r : ∀ x ∈ R0, Sl w x.v x.n x.cs
theorem wp_seq {id : Nat} {a : Act} {w : World} (L : List Ent) (R : List Rd) (brk eff lds perm : List Nat) (hm : P.follows .mixedOrders = true) (hs : (Region.noSelect ops && (perm.length == ops.size && ordOk .any ops brk eff lds (Array.replicate ops.size false) perm)) = true)
    (h : Seq P ops Q (Kept L R) brk eff lds perm a w.drew) : (Code.region id ops true).wp P Q a w := by
 rw [Bool.and_eq_true, Bool.and_eq_true] at hs
 obtain ⟨h1, h2, h3⟩ := hs
 have := Seq.anyS h1 perm _ a _ h3 h
 rw [show perm.length = ops.size by simpa using h2] at this
 exact wp_region_any hm (AnyS.any _ _ _ _ this)
end
def nthO : List Oper → Nat → Option Oper
 | [], _ => none
 | o :: _, 0 => some o
 | _ :: r, n + 1 => nthO r n
theorem nthO_get : ∀ (l : List Oper) (i : Nat), nthO l i = l[i]?
 | [], i => by simp [nthO]
 | v :: r, 0 => rfl
 | v :: r, i + 1 => by rw [List.getElem?_cons_succ]; exact nthO_get r i
def oAt (ops : Array Oper) (i : Nat) : Option Oper := nthO ops.toList i
theorem oAt_get {ops : Array Oper} {i : Nat} {o : Oper} (h : oAt ops i = some o) : ops[i]? = some o := by
 unfold oAt at h
 rw [nthO_get] at h
 simpa using h
section
variable {P : Program} {ops : Array Oper} {Q : Exit → Act → World → Prop} {L0 : List Ent} {brk eff lds : List Nat} {i : Nat} {r : List Nat} {o : Oper} {a : Act} {S : List Nat} {w0 w : World} {L : List Ent} {R : List Rd}
structure Under (L0 : List Ent) (R0 : List Rd) (L : List Ent) (R : List Rd) : Prop where
 l : L0.Sublist L
 r : ∀ x ∈ R0, x ∈ R
theorem Under.up {R0 : List Rd} {x : Rd} (h : Under L0 R0 L R) : Under L0 R0 L (x :: R) := ⟨h.l, fun y hy => List.mem_cons_of_mem _ (h.r y hy)⟩
theorem Under.up3 {R0 : List Rd} {x y z : Rd} (h : Under L0 R0 L R) : Under L0 R0 L (x :: y :: z :: R) := h.up.up.up
abbrev SQ (P : Program) (ops : Array Oper) (Q : Exit → Act → World → Prop) (L0 : List Ent) (R0 : List Rd) (brk eff lds : List Nat) : List Nat → Act → World → Prop := Seq P ops Q (Kept L0 R0) brk eff lds
def NoLook (Q : Exit → Act → World → Prop) : Prop := ∀ c a (k : Tmp) v w, Q (.panic c) (a.put (some k) v) w → Q (.panic c) a w
theorem NoLook.all (h : NoLook Q) : ∀ c a d v w, Q (.panic c) (a.put d v) w → Q (.panic c) a w := fun c a d v w hh => by
 cases d with
 | none => exact hh
 | some k => exact h c a k v w hh
theorem q_start {id : Nat} (k : Nat) (brk eff lds perm : List Nat) (X : St S w0 w L R) (hm : P.follows .mixedOrders = true) (hs : (Region.noSelect ops && (perm.length == ops.size && ordOk .any ops brk eff lds (Array.replicate ops.size false) perm)) = true) (hQ : NoLook Q)
    (h : NoLook Q → St S w0 w.drew L R → Under (L.take k) R L R → SQ P ops Q (L.take k) R brk eff lds perm a w.drew) : (Code.region id ops true).wp P Q a w := wp_seq (L.take k) R brk eff lds perm hm hs (h hQ X.drew ⟨List.take_sublist _ _, fun _ h => h⟩)
theorem q_nil {R0 : List Rd} (h : Q .normal a w) : SQ P ops Q L0 R0 brk eff lds [] a w := h
theorem St.keeps {R0 : List Rd} (X : St S w0 w L R) (hL : Under L0 R0 L R) : Kept L0 R0 w := ⟨fun e he => X.blk e (hL.l.subset he), fun r hr => (X.rd r (hL.r r hr)).1⟩
theorem St.und {R0 : List Rd} (X : St S w0 w L R) (hL : Under L0 R0 L R) : Under L0 R0 L R := hL
variable {R0 : List Rd}
theorem q_eff (hi : oAt ops i = some o) (he : eff.contains i = true) (hw : Region.wanted o (yielded ops a.tmps) = true)
    (h : ∀ K : Act → World → Prop, (∀ b v, (brk.contains i = false → Kept L0 R0 w → Kept L0 R0 v) → SQ P ops Q L0 R0 brk eff lds r b v → K b v) → o.wp P a w K Q) : SQ P ops Q L0 R0 brk eff lds (i :: r) a w := by
 unfold SQ Seq
 rw [if_pos he]
 unfold wpOp
 rw [oAt_get hi]
 simp only [hw, if_true]
 exact .inl (h _ fun b v h1 h2 => ⟨h1, h2⟩)
theorem q_read {v : Value} (hi : oAt ops i = some o) (he : (!eff.contains i && lds.contains i) = true) (hw : Region.wanted o (yielded ops a.tmps) = true) (X : St S w0 w L R) (hL : Under L0 R0 L R) (hQ : NoLook Q)
    (hv : ∀ w', Kept L0 R0 w' → (execOp a.eval o).run P w' = .ok (.value v) w') (h : SQ P ops Q L0 R0 brk eff lds r (a.put o.dst v) w) : SQ P ops Q L0 R0 brk eff lds (i :: r) a w := by
 rw [Bool.and_eq_true, Bool.not_eq_true'] at he
 unfold SQ Seq
 rw [if_neg (by rw [he.1]; decide), if_pos he.2]
 exact ⟨o, v, oAt_get hi, .inl ⟨hw, hv⟩, X.keeps hL, fun c a w hh => hQ.all c a o.dst v w hh, h⟩
theorem q_skip (hi : oAt ops i = some o) (he : (!eff.contains i && !lds.contains i) = true) (hw : Region.wanted o (yielded ops a.tmps) = false) (hQ : NoLook Q)
    (h : SQ P ops Q L0 R0 brk eff lds r (a.put o.dst undef) w) : SQ P ops Q L0 R0 brk eff lds (i :: r) a w := by
 rw [Bool.and_eq_true, Bool.not_eq_true', Bool.not_eq_true'] at he
 unfold SQ Seq
 rw [if_neg (by rw [he.1]; decide), if_neg (by rw [he.2]; decide)]
 exact ⟨o, undef, oAt_get hi, .inr ⟨hw, rfl⟩, fun c a w hh => hQ.all c a o.dst undef w hh, h⟩
theorem q_pure {v : Value} (hi : oAt ops i = some o) (he : (!eff.contains i && !lds.contains i) = true) (hw : Region.wanted o (yielded ops a.tmps) = true) (hQ : NoLook Q)
    (hv : ∀ w', (execOp a.eval o).run P w' = .ok (.value v) w') (h : SQ P ops Q L0 R0 brk eff lds r (a.put o.dst v) w) : SQ P ops Q L0 R0 brk eff lds (i :: r) a w := by
 rw [Bool.and_eq_true, Bool.not_eq_true', Bool.not_eq_true'] at he
 unfold SQ Seq
 rw [if_neg (by rw [he.1]; decide), if_neg (by rw [he.2]; decide)]
 exact ⟨o, v, oAt_get hi, .inl ⟨hw, fun w' _ => hv w'⟩, fun c a w hh => hQ.all c a o.dst v w hh, h⟩
theorem q_move {x : Operand} {v : Value} (hi : oAt ops i = some o) (ho : o.op = .move x) (hx : EvR a x v) (he : (!eff.contains i && !lds.contains i) = true) (hw : Region.wanted o (yielded ops a.tmps) = true) (hQ : NoLook Q)
    (h : SQ P ops Q L0 R0 brk eff lds r (a.put o.dst v) w) : SQ P ops Q L0 R0 brk eff lds (i :: r) a w :=
 q_pure hi he hw hQ (fun w' => by unfold execOp; simp only [ho, hx.eval]; rfl) h
theorem q_assign {x : Operand} {v : Value} (hi : oAt ops i = some o) (ho : o.op = .assign x) (hx : EvR a x v) (he : (!eff.contains i && !lds.contains i) = true) (hw : Region.wanted o (yielded ops a.tmps) = true) (hQ : NoLook Q)
    (h : SQ P ops Q L0 R0 brk eff lds r (a.put o.dst v) w) : SQ P ops Q L0 R0 brk eff lds (i :: r) a w :=
 q_pure hi he hw hQ (fun w' => by unfold execOp; simp only [ho, hx.eval]; rfl) h
theorem q_extract {x : Operand} {k : Nat} {vs : List Value} {v : Value} (hi : oAt ops i = some o) (ho : o.op = .extract x k) (hx : EvR a x (.tuple vs.toArray)) (hv : nth vs k = some v) (he : (!eff.contains i && !lds.contains i) = true) (hw : Region.wanted o (yielded ops a.tmps) = true) (hQ : NoLook Q)
    (h : SQ P ops Q L0 R0 brk eff lds r (a.put o.dst v) w) : SQ P ops Q L0 R0 brk eff lds (i :: r) a w :=
 q_pure hi he hw hQ (fun w' => by
  rw [nth_get] at hv
  unfold execOp; simp only [ho, hx.eval, Instr.extract]; simp [hv]) h
class FieldT (P : Program) (T : TypeId) (k : Nat) (d : outParam Nat) : Prop where
 at_ : ∀ (g i : Nat) (w : World), (Instr.fieldAt T (.pointer (some ⟨g, i, none⟩)) k).run P w = .ok (.pointer (some ⟨g, i + d, none⟩)) w
theorem q_field {x : Operand} {T : TypeId} {k d g n : Nat} (hi : oAt ops i = some o) (ho : o.op = .fieldAddr T x k) (hx : EvR a x (.pointer (some ⟨g, n, none⟩))) [hF : FieldT P T k d] (he : (!eff.contains i && !lds.contains i) = true) (hw : Region.wanted o (yielded ops a.tmps) = true) (hQ : NoLook Q)
    (h : SQ P ops Q L0 R0 brk eff lds r (a.put o.dst (.pointer (some ⟨g, n + d, none⟩))) w) : SQ P ops Q L0 R0 brk eff lds (i :: r) a w :=
 q_pure hi he hw hQ (fun w' => by unfold execOp; simp only [ho, hx.eval, Sem.run_bind, hF.at_, Result.andThen_ok, Sem.run_pure]) h
theorem q_load1 {x : Operand} {T : TypeId} {g n : Nat} (hi : oAt ops i = some o) (ho : o.op = .load T x) (hx : EvR a x (.pointer (some ⟨g, n, none⟩))) [OneT P T] {cs : List Value} {t : TypeId} (hm : ⟨g, cs, t⟩ ∈ L0) {v : Value} (hv : nth cs n = some v)
    (he : (!eff.contains i && lds.contains i) = true) (hw : Region.wanted o (yielded ops a.tmps) = true) (X : St S w0 w L R) (hL : Under L0 R0 L R) (hQ : NoLook Q)
    (h : SQ P ops Q L0 R0 brk eff lds r (a.put o.dst v) w) : SQ P ops Q L0 R0 brk eff lds (i :: r) a w :=
 q_read hi he hw X hL hQ (fun w' hw' => by
  have hc : w'.cell? ⟨g, n, none⟩ = some v := by rw [(hw'.l _ hm).cell n, ← hv, nth_get]; simp
  unfold execOp
  simp only [ho, hx.eval, Instr.loadAt, Instr.sureAddr, Sem.run_bind, Sem.run_pure, Result.andThen_ok, run_loadOne (T := T) hc]) h
theorem q_loadN {x : Operand} {T : TypeId} {g n m : Nat} (hi : oAt ops i = some o) (ho : o.op = .load T x) (hx : EvR a x (.pointer (some ⟨g, n, none⟩))) [hT : AggT P T m] {cs : List Value} {t : TypeId} (hm : ⟨g, cs, t⟩ ∈ L0) (hn : n + m ≤ cs.length)
    (he : (!eff.contains i && lds.contains i) = true) (hw : Region.wanted o (yielded ops a.tmps) = true) (X : St S w0 w L R) (hL : Under L0 R0 L R) (hQ : NoLook Q)
    (h : SQ P ops Q L0 R0 brk eff lds r (a.put o.dst (.agg ((cs.drop n).take m).toArray)) w) : SQ P ops Q L0 R0 brk eff lds (i :: r) a w :=
 q_read hi he hw X hL hQ (fun w' hw' => by
  obtain ⟨⟨d, hu, hd⟩, hs⟩ := hT
  have hr : (loadVar T ⟨g, n, none⟩).run P w' = .ok (.agg ((cs.drop n).take m).toArray) w' := run_loadVar_mid w' g n T ((cs.drop n).take m) d (fun j v hj => by
   rw [(hw'.l _ hm).cell]
   rw [List.getElem?_take] at hj
   split at hj
   ·rw [List.getElem?_drop] at hj; simpa using hj
   ·cases hj) hu hd (by rw [hs, List.length_take, List.length_drop]; congr 1; omega)
  unfold execOp
  simp only [ho, hx.eval, Instr.loadAt, Instr.sureAddr, Sem.run_bind, Sem.run_pure, Result.andThen_ok, hr]) h
theorem flat_nth {α : Type} {f : α → List Value} {c : Nat} (hF : ∀ x, (f x).length = c) : ∀ {l : List α} {k d : Nat} (hk : k < l.length), d < c → (l.flatMap f)[k * c + d]? = (f l[k])[d]?
 | x :: l, 0, d, hk, hd => by
  rw [List.flatMap_cons, Nat.zero_mul, Nat.zero_add, List.getElem?_append_left (by rw [hF]; exact hd)]; rfl
 | x :: l, k + 1, d, hk, hd => by
  rw [List.flatMap_cons, List.getElem?_append_right (by rw [hF, Nat.add_mul]; omega), hF, show (k + 1) * c + d - c = k * c + d by rw [Nat.add_mul]; omega]
  exact flat_nth hF (l := l) (Nat.lt_of_succ_lt_succ hk) hd
theorem Sl.elem {α : Type} {f : α → List Value} {c : Nat} (hF : ∀ x, (f x).length = c) {w : World} {b off cap n k d : Nat} {l : List α} (h : Sl w (.slice (some ⟨b, off, none⟩) n cap) l.length (l.flatMap f)) (hk : k < l.length) (hd : d < c) : w.cell? ⟨b, off + k * c + d, none⟩ = (f l[k])[d]? := by
 have hfn := flat_nth hF (d := d) hk hd
 have hlt : d < (f l[k]).length := by rw [hF]; exact hd
 rw [List.getElem?_eq_getElem hlt] at hfn ⊢
 obtain ⟨a, cap', hv, h1, h2, h3⟩ := h
 rcases h3 with h3 | ⟨b', off', ha, hc⟩
 ·rw [h3] at hfn; cases hfn
 ·cases hv
  cases ha
  rw [Nat.add_assoc]
  exact hc _ _ hfn
theorem q_elemN {α : Type} {f : α → List Value} {c : Nat} (hF : ∀ x, (f x).length = c) {l : List α} {k : Nat} (hk : k < l.length) {x : Operand} {T : TypeId} {b off cap n : Nat} (hi : oAt ops i = some o) (ho : o.op = .load T x) (hm : Rd.of f (.slice (some ⟨b, off, none⟩) n cap) l ∈ R0) (hx : EvR a x (.pointer (some ⟨b, off + k * c, none⟩))) [hT : AggT P T c]
    (he : (!eff.contains i && lds.contains i) = true) (hw : Region.wanted o (yielded ops a.tmps) = true) (X : St S w0 w L R) (hL : Under L0 R0 L R) (hQ : NoLook Q)
    (h : SQ P ops Q L0 R0 brk eff lds r (a.put o.dst (.agg (f l[k]).toArray)) w) : SQ P ops Q L0 R0 brk eff lds (i :: r) a w :=
 q_read hi he hw X hL hQ (fun w' hw' => by
  obtain ⟨⟨d, hu, hd⟩, hs⟩ := hT
  have hr : (loadVar T ⟨b, off + k * c, none⟩).run P w' = .ok (.agg (f l[k]).toArray) w' := run_loadVar_mid w' b (off + k * c) T (f l[k]) d (fun j v hj => by
   have hlt : j < c := by rw [← hF l[k]]; exact (List.getElem?_eq_some_iff.1 hj).1
   rw [Sl.elem hF (hw'.r _ hm) hk hlt]; exact hj) hu hd (by rw [hs, hF])
  unfold execOp
  simp only [ho, hx.eval, Instr.loadAt, Instr.sureAddr, Sem.run_bind, Sem.run_pure, Result.andThen_ok, hr]) h
theorem q_call (f : FuncId) (xs : List Operand) (ts : Array TypeId) (hi : oAt ops i = some o) (ho : o.op = .call { callee := .value (.func f), args := xs.toArray, argTypes := ts }) (args : Array Value) (ha : (xs.map a.eval).toArray = args)
    (hb : ∃ fn c, P.funcs[f]? = some fn ∧ (fn.name == "runtime.NumGoroutine") = false ∧ fn.body = some c) (he : eff.contains i = true) (hw : Region.wanted o (yielded ops a.tmps) = true) {F : Ending → World → Prop}
    (h : Calls P f args w F) (hK : ∀ e w', F e w' → ∃ v, e = .returned v ∧ (brk.contains i = false → Kept L0 R0 w → Kept L0 R0 w') ∧ SQ P ops Q L0 R0 brk eff lds r (a.put o.dst v) w') : SQ P ops Q L0 R0 brk eff lds (i :: r) a w :=
 q_eff hi he hw fun K hk => by
  subst ha
  obtain ⟨fn, c, h1, h2, h3⟩ := hb
  have hr : (execOp a.eval o).run P w = .ok (.enter f (xs.map a.eval).toArray) w := by
   unfold execOp
   simp [ho, resolve, invoke, Deferred.ofValue, Act.eval, run_enter h1 h2 h3]
  unfold Oper.wp
  rw [hr, Oper.upon_enter]
  exact h.mono fun e w' hF => by obtain ⟨v, rfl, hs, hq⟩ := hK e w' hF; exact hk _ _ hs hq
theorem q_store1 (A B : List Ent) {x y : Operand} {T : TypeId} {g n : Nat} {cs : List Value} {t : TypeId} (hi : oAt ops i = some o) (ho : o.op = .store T x y) (hx : EvR a x (.pointer (some ⟨g, n, none⟩))) [OneT P T] {v : Value} (hy : EvR a y v)
    (X : St S w0 w (A ++ ⟨g, cs, t⟩ :: B) R) (hn : n < cs.length) (h1 : v.oneCell' = true) (hc : v.cells = #[v]) (he : eff.contains i = true) (hw : Region.wanted o (yielded ops a.tmps) = true)
    (h : ∀ w', St S w0 w' (A ++ ⟨g, upd n [v] cs, t⟩ :: B) R → (brk.contains i = false → Kept L0 R0 w → Kept L0 R0 w') ∧ SQ P ops Q L0 R0 brk eff lds r (a.put o.dst undef) w') : SQ P ops Q L0 R0 brk eff lds (i :: r) a w :=
 q_eff hi he hw fun K hk => by
  have ht := X.there (g := g) (cs := cs) (t := t) (i := n) (n := 1) (by simp) (by omega)
  obtain ⟨h2, h3⟩ := h _ (by simpa using X.wrote A B n [v] (show n + 1 ≤ cs.length from hn))
  unfold Oper.wp execOp
  simp only [ho, hx.eval, hy.eval, Instr.storeAt, Instr.sureAddr, Sem.run_bind, Sem.run_pure, Result.andThen_ok, run_storeOne (T := T) ht h1 hc]
  exact hk _ _ h2 h3
theorem q_storeN (A B : List Ent) {x y : Operand} {T : TypeId} {g n m : Nat} {cs : List Value} {t : TypeId} (hi : oAt ops i = some o) (ho : o.op = .store T x y) (hx : EvR a x (.pointer (some ⟨g, n, none⟩))) [hT : AggT P T m] {vs : List Value} (hy : a.eval y = .agg vs.toArray)
    (X : St S w0 w (A ++ ⟨g, cs, t⟩ :: B) R) (hm : vs.length = m) (hn : n + vs.length ≤ cs.length) (h1 : vs.all (·.oneCell') = true) (he : eff.contains i = true) (hw : Region.wanted o (yielded ops a.tmps) = true)
    (h : ∀ w', St S w0 w' (A ++ ⟨g, upd n vs cs, t⟩ :: B) R → (brk.contains i = false → Kept L0 R0 w → Kept L0 R0 w') ∧ SQ P ops Q L0 R0 brk eff lds r (a.put o.dst undef) w') : SQ P ops Q L0 R0 brk eff lds (i :: r) a w :=
 q_eff hi he hw fun K hk => by
  obtain ⟨h2, h3⟩ := h _ (by simpa using X.wrote A B n vs hn)
  exact wp_store_mid T x y ho g n vs.toArray hx.eval hy (X.there (cs := cs) (t := t) (by simp) (by simpa using hn)) (by rw [hT.size]; simp [hm]) (by simpa using h1) (hk _ _ (by simpa using h2) (by simpa using h3))
theorem q_alloc {T : TypeId} (hi : oAt ops i = some o) (ho : o.op = .alloc T) {cs : List Value} [hT : ZeroT P T cs] (X : St S w0 w L R) (hL : Under L0 R0 L R) (he : eff.contains i = true) (hw : Region.wanted o (yielded ops a.tmps) = true)
    (h : ∀ g w', St S w0 w' (⟨g, cs, T⟩ :: L) R → Under L0 R0 (⟨g, cs, T⟩ :: L) R → SQ P ops Q L0 R0 brk eff lds r (a.put o.dst (.pointer (some ⟨g, 0, none⟩))) w') : SQ P ops Q L0 R0 brk eff lds (i :: r) a w :=
 q_eff hi he hw fun K hk => by
  have hz := hT.zero
  cases hq : P.info? T with
  | none => simp [hq] at hz
  | some x =>
   cases hs : x.zero with
   | none => simp [hq, hs] at hz
   | some z =>
    have hc : z.cells = cs.toArray := by simpa [hq, hs] using hz
    have hL' : Under L0 R0 ((⟨w.heap.size, cs, T⟩ : Ent) :: L) R := ⟨hL.l.cons _, hL.r⟩
    unfold Oper.wp execOp
    simp only [ho, Instr.alloc, zeroValue, typeInfo, newVar, newRow, newObj, Sem.run_bind, Sem.run_pure, Result.andThen_ok]
    simp [hq, hs, hc]
    exact hk _ _ (fun _ _ => (X.alloc cs T).keeps hL') (h _ _ (X.alloc cs T) hL')
end
section
variable {P : Program} {S : List Nat} {w0 w : World} {L : List Ent} {R : List Rd}
variable {ops : Array Oper} {Q : Exit → Act → World → Prop} {L0 : List Ent} {R0 : List Rd} {brk eff lds r : List Nat} {a : Act} {i : Nat} {o : Oper}
theorem q_moveS {x : Operand} {v : Value} (hQ : NoLook Q) (h : SQ P ops Q L0 R0 brk eff lds r (a.put o.dst v) w) (hi : oAt ops i = some o := by rfl) (ho : o.op = .move x := by rfl) (hx : EvR a x v := by first | exact EvR.const _ | exact EvR.tmp rfl rfl) (he : (!eff.contains i && !lds.contains i) = true := by rfl) (hw : Region.wanted o (yielded ops a.tmps) = true := by rfl) :
    SQ P ops Q L0 R0 brk eff lds (i :: r) a w := q_move hi ho hx he hw hQ h
theorem q_assignS {x : Operand} {v : Value} (hQ : NoLook Q) (h : SQ P ops Q L0 R0 brk eff lds r (a.put o.dst v) w) (hi : oAt ops i = some o := by rfl) (ho : o.op = .assign x := by rfl) (hx : EvR a x v := by first | exact EvR.const _ | exact EvR.tmp rfl rfl) (he : (!eff.contains i && !lds.contains i) = true := by rfl) (hw : Region.wanted o (yielded ops a.tmps) = true := by rfl) :
    SQ P ops Q L0 R0 brk eff lds (i :: r) a w := q_assign hi ho hx he hw hQ h
theorem q_fieldS {x : Operand} {T : TypeId} {k d g n : Nat} (hQ : NoLook Q) (h : SQ P ops Q L0 R0 brk eff lds r (a.put o.dst (.pointer (some ⟨g, n + d, none⟩))) w) (hi : oAt ops i = some o := by rfl) (ho : o.op = .fieldAddr T x k := by rfl) (hF : FieldT P T k d := by infer_instance) (hx : EvR a x (.pointer (some ⟨g, n, none⟩)) := by first | exact EvR.const _ | exact EvR.tmp rfl rfl) (he : (!eff.contains i && !lds.contains i) = true := by rfl) (hw : Region.wanted o (yielded ops a.tmps) = true := by rfl) :
    SQ P ops Q L0 R0 brk eff lds (i :: r) a w := q_field hi ho hx he hw hQ h
end
end Wb
