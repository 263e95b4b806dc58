/- From a walk that returns true and leaves what was there to the statement's own form. Slices of the arguments, as lists. No program in sight. What arguments read as: from the form's own reading to the plain data. Disks. No program in sight. Disks as arguments. What Decode answers, its lists its own. Transactions as plain data. No program in sight. What a log tells, as plain lists. No program in sight. Owned transactions, and lists of them. No program in sight. The walks of disk: at, Good. The walk of disk.Read. The walk of the reader's next. The reference's small walks on copies. The walk of CopyTxn. The walk of the reader's one. More on what a log tells. No program in sight. What a log tells, by the reference's road. No program in sight. What a new disk with a super block tells. No program in sight. The walk of the reference's GoodDisk. The walks of the reference's after, ReadDisk. The walk of CopyDisk. The walk of slices.Clone of writes. The walks of SameDisk and sameDisk, of disks that are alike. The walk of disk.Put, its good way. The walk of disk.Put. Flush and Crash as plain lists. No program in sight. The walk of disk.Flush. The walk of the reference's FlushDisk. The walks of New, NewDisk. -/
import Derived.Test.YtjhmfljlclajnabRows
import Derived.Test.YtjhmfljlclajnabBase
import Derived.ProofKit
import Derived.OpenShut
import Derived.Deep.DeepHandedRow
import Derived.LaidLaws
import Derived.Lib.SmallJoins
import Derived.SizedLaws
import Derived.Test.YtjhmfljlclajnabPure
import Derived.Test.YtjhmfljlclajnabBytes
import Derived.Test.YtjhmfljlclajnabDec2
import Derived.Test.YtjhmfljlclajnabDec3
import Derived.Test.YtjhmfljlclajnabDecP2
import Derived.Test.YtjhmfljlclajnabEsc
import Derived.Test.YtjhmfljlclajnabRegCall
import Derived.BigQuiet
import Derived.Deep.RegionWith
import Derived.Deep.QuietTactic
import Derived.Test.YtjhmfljlclajnabChecked
import Derived.Test.YtjhmfljlclajnabRegApp
import Derived.Test.YtjhmfljlclajnabDecA
import Derived.Deep.LoopGhost
import Derived.Deep.RegionHeld3
import Derived.Deep.CutBlock
import Derived.Deep.DeepCutAuto
import Derived.Test.YtjhmfljlclajnabPoke
import Derived.Test.YtjhmfljlclajnabFit2
namespace Go.Proofs.Ytjhmfljlclajnab
open Go.ChangeShapes Go.WideShapes Go.ChangeAt Go.RowKit Wb

theorem own : ownKnob Try.prog.godebug = none := by kernel_rfl
theorem laidOut : laidOutB Try.prog = true := by kernel_rfl

/-- What reads as data before reads so behind the call, where only new blocks are written. -/
theorem trodAll_stays {H : Type} {enc : TypeId × Value → H} {W W' : World} {sp : Nat → Bool} (hb : Below W.heap.size W W') : ∀ (ts : List TypeId) (vs : List Value) (ds : List (DataW H)) (ps : List MemPlace),
    (∀ t ∈ ts, Try.prog.readableRec t = true ∧ t < Try.prog.types.size) → DataW.TrodAll enc Try.prog W 0 (fun _ => true) true ts vs ds ps →
    (∀ x ∈ ps, x.block < W.heap.size) → (∀ x ∈ ps, sp x.block = true) → DataW.TrodAll enc Try.prog W' 0 sp true ts vs ds ps
  | [], [], [], _, _, h, _, _ => h
  | t :: ts, v :: vs, d :: ds, ps, hr, h, hlt, hs => by
    obtain ⟨p, q, h1, h2, rfl⟩ := h
    refine ⟨p, q, ?_, ?_, rfl⟩
    · exact WideElems.Trod_stays laidOut (hr t (by simp)).1 (hr t (by simp)).2 h1 (fun x hx => hb.same (hlt x (by simp [hx]))) (fun x hx => hs x (by simp [hx]))
    · exact trodAll_stays hb ts vs ds q (fun t' ht => hr t' (by simp [ht])) h2 (fun x hx => hlt x (by simp [hx])) (fun x hx => hs x (by simp [hx]))
  | [], [], _ :: _, _, _, h, _, _ => h.elim
  | [], _ :: _, _, _, _, h, _, _ => h.elim
  | _ :: _, [], _, _, _, h, _, _ => h.elim
  | _ :: _, _ :: _, [], _, _, h, _, _ => h.elim

/-- What the statement asks behind a call that returned true. -/
theorem post_true {H : Type} {enc : TypeId × Value → H} {f : Func} {s : ChangeSpec} {apart fresh handsOn : Bool} {W W' : World} {args : Array Value} {ds gs : List (DataW H)} {before : List MemPlace}
    (hres : f.resultTypes = #[4]) (hvars : s.vars = []) (hspec : s.fn H (ds ++ gs) = { results := [.lit (.bool true)], args := ds })
    (hread : ∀ t ∈ f.params.toList, Try.prog.readableRec t = true ∧ t < Try.prog.types.size)
    (hW : DataW.Whole enc Try.prog f.params.toList s.vars apart W args.toList ds gs before) (hb : Below W.heap.size W W') :
    s.post enc Try.prog f apart fresh handsOn false W args (.bool true) W' := by
  have hlt := hW.lt
  have hW' := hW
  obtain ⟨p, q, hA, hV, rfl, hfz, hnd⟩ := hW
  rw [hvars] at hV
  obtain ⟨rfl, rfl⟩ := trodVars_none hV
  refine ⟨ds, [], _, [], p, [], hW', ?_, ?_, ?_, hb.frame _, fun h => by cases h⟩
  · rw [hspec, hres]
    exact trodAll_mk1 (shut_bool Try.underlying4 true)
  · rw [hspec]
    exact trodAll_stays hb _ _ _ _ hread hA (fun x hx => hlt x (by simp [hx])) (fun x hx => by simpa using hlt x (by simp [hx]))
  · rw [hspec, hvars]
    rfl

/-- The world of the witness: the settled one. -/
noncomputable def plainWorld (os : Os) : World := World.holding Try.prog os ⟨#[], #[], []⟩
end Go.Proofs.Ytjhmfljlclajnab

namespace Wb
open Go Go.ChangeShapes Go.WideShapes Go.ChangeAt Go.RowKit Go.Joins Go.Deep
theorem flat_at {α : Type} {f : α → List Value} {c : Nat} (hf : ∀ x, (f x).length = c) : ∀ (l : List α) (j : Nat) (u : Value), (l.flatMap f)[j]? = some u → ∃ i x r, l[i]? = some x ∧ j = i * c + r ∧ (f x)[r]? = some u ∧ r < c
  | [], j, u, h => by simp at h
  | y :: l, j, u, h => by
    rw [List.flatMap_cons] at h
    by_cases hj : j < c
    · rw [List.getElem?_append_left (by rw [hf]; exact hj)] at h
      exact ⟨0, y, j, rfl, by omega, h, hj⟩
    · rw [List.getElem?_append_right (by rw [hf]; omega), hf] at h
      obtain ⟨i, x, r, h1, h2, h3, h4⟩ := flat_at hf l _ u h
      exact ⟨i + 1, x, r, by simpa using h1, by rw [Nat.succ_mul]; omega, h3, h4⟩
section
variable {H : Type} {enc : TypeId × Value → H} {P : Program} {w : World} {base : Nat} {spare : Nat → Bool} {held : Bool}
theorem read_RL {α : Type} [Inhabited α] {f : α → List Value} {c : Nat} (hf : ∀ x, (f x).length = c) (h0 : 0 < c) {t e : TypeId} {fuel : Nat} {cs : List Value} {x : DataW H × List MemPlace} (ht : P.underlying t = some (.slice e)) (hc : P.cellsOf e = c)
    (hread : ∀ n cs' y, DataW.trod enc P w base spare held n e cs' = some y → cs'.length = c → ∃ x : α, cs' = f x) (h : DataW.trod enc P w base spare held fuel t cs = some x) :
    ∃ (v : Value) (l : List α), cs = [v] ∧ RL f w v l ∧ ((x.1 = .nil ∧ l = []) ∨ ∃ el sp, x.1 = .slice el sp ∧ el.length = l.length) := by
  rcases open_slice ht h with ⟨rfl, rfl⟩ | ⟨a, len, cap, m, n, D, Pl, rfl, hb, hl, hm, hmm, rfl, hx⟩
  · exact ⟨_, [], rfl, RL.nil f w, .inl ⟨rfl, rfl⟩⟩
  have hlm : len ≤ m := by rw [hmm]; split <;> omega
  have each : ∀ i, i < len → ∃ x : α, ∀ r, r < c → w.cell? (a.add (i * c + r)) = (f x)[r]? := by
    intro i hi
    obtain ⟨cs', h1, h2⟩ := hx i (by omega)
    rw [hc] at h1
    obtain ⟨_, hlen, hcell⟩ := World.cells?_some h1
    obtain ⟨x, rfl⟩ := hread _ _ _ h2 hlen
    exact ⟨x, fun r hr => by have := hcell r hr; rwa [add_add] at this⟩
  obtain ⟨X, hX⟩ := choose_lt each
  refine ⟨_, (List.range len).map X, rfl, ?_, .inr ⟨_, _, rfl, by simp⟩⟩
  refine ⟨some a, cap, by simp, by simpa using hl, hm, ?_⟩
  by_cases hlen : len = 0
  · subst hlen; left; rfl
  right
  have hspot : a.spot = none := by
    have h1 := hX 0 (by omega) 0 h0
    have h2 : (f (X 0))[0]? ≠ none := by rw [Ne, List.getElem?_eq_none_iff, hf]; omega
    obtain ⟨u, hu⟩ := Option.ne_none_iff_exists'.1 h2
    rw [hu] at h1
    simpa [Addr.add] using World.cell?_spot h1
  obtain ⟨b, off, spot⟩ := a
  obtain rfl : spot = none := hspot
  refine ⟨b, off, rfl, fun j u hj => ?_⟩
  obtain ⟨i, x, r, h1, rfl, h3, h4⟩ := flat_at hf _ _ _ hj
  rw [List.getElem?_map, Option.map_eq_some_iff] at h1
  obtain ⟨k, hk, rfl⟩ := h1
  obtain ⟨hkl, rfl⟩ := List.getElem?_eq_some_iff.1 hk
  simp only [List.length_range] at hkl
  simp only [List.getElem_range] at h3
  have := hX i hkl r h4
  rw [h3, Addr.add_lit] at this
  exact this
end
end Wb

namespace Go.Proofs.Ytjhmfljlclajnab
open Go.ChangeShapes Go.WideShapes Go.ChangeAt Go.RowKit Go.Joins Wb
set_option maxRecDepth 100000
section
variable {H : Type} {enc : TypeId × Value → H} {W : World} {base : Nat}
end
end Go.Proofs.Ytjhmfljlclajnab

namespace Wb
open Go Go.RowKit
structure Wr where
  at_ : Int
  text : ByteArray
structure Dsk where
  safe : List ByteArray
  writes : List Wr
instance : Inhabited Wr := ⟨⟨0, ⟨#[]⟩⟩⟩
instance : Inhabited ByteArray := ⟨⟨#[]⟩⟩
def wrC (x : Wr) : List Value := [.int .i64 x.at_, .string x.text]
theorem wrC_flat : Flat wrC 2 := ⟨fun _ => rfl, fun _ u hu => by simp [wrC] at hu; rcases hu with rfl | rfl <;> rfl, by decide⟩
def isAt (n : Int) : Bool := decide (0 ≤ n ∧ n < 37)
def ok32 (s : ByteArray) : Bool := decide (s.size = 32)
def wrOk (x : Wr) : Bool := isAt x.at_ && ok32 x.text
def goodD (d : Dsk) : Bool := decide (d.safe.length = 37) && decide (d.writes.length ≤ 200) && d.safe.all ok32 && d.writes.all wrOk
theorem goodD_iff (d : Dsk) : goodD d = true ↔ d.safe.length = 37 ∧ d.writes.length ≤ 200 ∧ d.safe.all ok32 = true ∧ d.writes.all wrOk = true := by
  unfold goodD; simp only [Bool.and_eq_true, decide_eq_true_iff, and_assoc]
/-- A disk by value, as it is read. -/
def RDisk (w : World) (v : Value) (d : Dsk) : Prop :=
  ∃ vs vw, v = .agg #[vs, vw] ∧ RL strC w vs d.safe ∧ RL wrC w vw d.writes ∧ d.safe.length ≤ 8796093022208 ∧ d.writes.length ≤ 5864062014805
theorem RDisk.below {w w' : World} {v : Value} {d : Dsk} (h : RDisk w v d) (hb : Below w.heap.size w w') : RDisk w' v d := by
  obtain ⟨vs, vw, hv, h1, h2, h3⟩ := h
  exact ⟨vs, vw, hv, h1.below hb, h2.below hb, h3⟩
/-- What IndexFunc says of a list of which all is well, or not. -/
def idxIs (b : Bool) (r : Int) : Prop := if b = true then r = -1 else 0 ≤ r
/-! ### All of a list, so far -/
theorem all_step {α : Type} {p : α → Bool} {l : List α} {k : Nat} (hk : k < l.length) (h : (l.take k).all p = true) (hp : p l[k] = true) : (l.take (k + 1)).all p = true := by
  rw [List.take_succ_eq_append_getElem hk, List.all_append, h]
  simp [hp]
theorem all_no {α : Type} {p : α → Bool} {l : List α} {k : Nat} (hk : k < l.length) (hp : p l[k] = false) : l.all p = false := by
  rw [← Bool.not_eq_true, List.all_eq_true]
  intro h
  rw [h _ (List.getElem_mem hk)] at hp
  exact Bool.noConfusion hp
theorem all_full {α : Type} {p : α → Bool} {l : List α} {k : Nat} (hk : k ≤ l.length) (hn : ¬ k < l.length) (h : (l.take k).all p = true) : l.all p = true := by
  rw [List.take_of_length_le (by omega)] at h; exact h
/-! ### Reading -/
/-- The last text that is written at a place. -/
def lastT (s : ByteArray) (n : Int) (ws : List Wr) : ByteArray := ws.foldl (fun r x => if x.at_ = n then x.text else r) s
theorem lastT_nil (s : ByteArray) (n : Int) : lastT s n [] = s := rfl
theorem lastT_step (s : ByteArray) (n : Int) (ws : List Wr) (x : Wr) : lastT s n (ws ++ [x]) = if x.at_ = n then x.text else lastT s n ws := by simp [lastT]
theorem lastT_hit (s : ByteArray) (n : Int) {ws : List Wr} {k : Nat} (hk : k < ws.length) (h : ws[k].at_ = n) : lastT s n (ws.take (k + 1)) = ws[k].text := by
  rw [List.take_succ_eq_append_getElem hk, lastT_step, if_pos h]
theorem lastT_miss (s : ByteArray) (n : Int) {ws : List Wr} {k : Nat} (hk : k < ws.length) (h : ws[k].at_ ≠ n) : lastT s n (ws.take (k + 1)) = lastT s n (ws.take k) := by
  rw [List.take_succ_eq_append_getElem hk, lastT_step, if_neg h]
def safeAt (d : Dsk) (n : Int) : ByteArray := d.safe.getD n.toNat ⟨#[]⟩
def readD (d : Dsk) (n : Int) : ByteArray := if goodD d = true ∧ isAt n = true then lastT (safeAt d n) n d.writes else ⟨#[]⟩
def readE (d : Dsk) (n : Int) : Int := if goodD d = true ∧ isAt n = true then 0 else 2
/-- All texts that a block has had since it was safe, that one first. -/
def afterL (s : ByteArray) (n : Int) (ws : List Wr) : List ByteArray := s :: (ws.filter (fun x => decide (x.at_ = n))).map (·.text)
theorem afterL_nil (s : ByteArray) (n : Int) : afterL s n [] = [s] := rfl
theorem afterL_step (s : ByteArray) (n : Int) (ws : List Wr) (x : Wr) : afterL s n (ws ++ [x]) = if x.at_ = n then afterL s n ws ++ [x.text] else afterL s n ws := by
  by_cases h : x.at_ = n <;> simp [afterL, h]
theorem afterL_len (s : ByteArray) (n : Int) (ws : List Wr) : (afterL s n ws).length ≤ ws.length + 1 := by
  simp only [afterL, List.length_cons, List.length_map]
  have := List.length_filter_le (fun x : Wr => decide (x.at_ = n)) ws
  omega
theorem afterL_hit (s : ByteArray) (n : Int) {ws : List Wr} {k : Nat} (hk : k < ws.length) (h : ws[k].at_ = n) : afterL s n (ws.take (k + 1)) = afterL s n (ws.take k) ++ [ws[k].text] := by
  rw [List.take_succ_eq_append_getElem hk, afterL_step, if_pos h]
theorem afterL_miss (s : ByteArray) (n : Int) {ws : List Wr} {k : Nat} (hk : k < ws.length) (h : ws[k].at_ ≠ n) : afterL s n (ws.take (k + 1)) = afterL s n (ws.take k) := by
  rw [List.take_succ_eq_append_getElem hk, afterL_step, if_neg h]
theorem afterL_ne (s : ByteArray) (n : Int) (ws : List Wr) : afterL s n ws ≠ [] := by simp [afterL]
theorem after_last (s : ByteArray) (n : Int) (ws : List Wr) : (afterL s n ws).getLast? = some (lastT s n ws) := by
  have key : ∀ k, k ≤ ws.length → (afterL s n (ws.take k)).getLast? = some (lastT s n (ws.take k)) := by
    intro k
    induction k with
    | zero => intro _; rfl
    | succ k ih =>
      intro hk
      by_cases h : ws[k].at_ = n
      · rw [afterL_hit s n hk h, lastT_hit s n hk h]; simp
      · rw [afterL_miss s n hk h, lastT_miss s n hk h]; exact ih (by omega)
  have := key ws.length (Nat.le_refl _)
  rwa [List.take_length] at this
/-! ### Writing -/
def putE (d : Dsk) (n : Int) (t : ByteArray) : Int := if ¬ (goodD d = true ∧ isAt n = true) then 2 else if t.size ≠ 32 then 1 else if 200 ≤ d.writes.length then 11 else 0
def putD (d : Dsk) (n : Int) (t : ByteArray) : Dsk := if putE d n t = 0 then ⟨d.safe, d.writes ++ [⟨n, t⟩]⟩ else d
end Wb

namespace Go.Proofs.Ytjhmfljlclajnab
open Go.ChangeShapes Go.WideShapes Go.ChangeAt Go.RowKit Go.Joins Wb
set_option maxRecDepth 100000
section
variable {H : Type} {enc : TypeId × Value → H} {W : World} {base : Nat}
theorem read_strs {fuel : Nat} {cs : List Value} {x : DataW H × List MemPlace} (h : DataW.trod enc Try.prog W 0 (fun _ => true) true fuel 22 cs = some x) :
    ∃ (v : Value) (l : List ByteArray), cs = [v] ∧ RL strC W v l ∧ ((x.1 = .nil ∧ l = []) ∨ ∃ el sp, x.1 = .slice el sp ∧ el.length = l.length) :=
  read_RL (c := 1) (fun _ => rfl) (by decide) Try.underlying22 (by kernel_rfl) (fun n cs' y hy _ => by
    obtain ⟨a, rfl, _⟩ := DataW.trod_string Try.underlying9 hy
    exact ⟨a, rfl⟩) h
theorem read_writes {fuel : Nat} {cs : List Value} {x : DataW H × List MemPlace} (h : DataW.trod enc Try.prog W 0 (fun _ => true) true fuel 23 cs = some x) :
    ∃ (v : Value) (l : List Wr), cs = [v] ∧ RL wrC W v l ∧ ((x.1 = .nil ∧ l = []) ∨ ∃ el sp, x.1 = .slice el sp ∧ el.length = l.length) :=
  read_RL (c := 2) (fun _ => rfl) (by decide) Try.underlying23 (by kernel_rfl) (fun n cs' y hy hlen => by
    obtain ⟨y0, y1, n, _, _, h0, h1⟩ := trod_struct2 Try.underlying48 hy
    match cs', hlen with
    | [u0, u1], _ =>
      have h0 : DataW.trod enc Try.prog W 0 (fun _ => true) true n 3 [u0] = some y0 := h0
      have h1 : DataW.trod enc Try.prog W 0 (fun _ => true) true n 9 [u1] = some y1 := h1
      obtain ⟨a, e0, _⟩ := DataW.trod_int Try.underlying3 h0
      obtain ⟨b, e1, _⟩ := DataW.trod_string Try.underlying9 h1
      simp at e0 e1
      subst e0 e1
      exact ⟨⟨a, b⟩, rfl⟩) h
theorem read_disk {v : Value} {d : DataW H} {p : List MemPlace} (hv : Value.okWide Try.prog W .any base 25 v)
    (h : DataW.Trod enc Try.prog W 0 (fun _ => true) true 25 v d p) (hw : (d.weights Try.prog 25).all (· ≤ reachBytes) = true) : ∃ m : Dsk, RDisk W v m := by
  obtain ⟨cs, rfl, hsz⟩ := okWide_struct Try.underlying25 hv
  obtain ⟨fuel, hf⟩ := h
  obtain ⟨xs, n, _, hx, hl, hlen, hg⟩ := DataW.trod_struct Try.underlying25 hf
  have hsz' : cs.size = 2 := hsz.trans (by kernel_rfl)
  obtain ⟨ls⟩ := cs
  match ls, hsz', xs, hlen with
  | [u0, u1], _, [y0, y1], _ =>
    have h0 : DataW.trod enc Try.prog W 0 (fun _ => true) true n 22 [u0] = some y0 := hg 0 _ rfl
    have h1 : DataW.trod enc Try.prog W 0 (fun _ => true) true n 23 [u1] = some y1 := hg 1 _ rfl
    obtain ⟨v0, safe, e0, r0, d0⟩ := read_strs h0
    obtain ⟨v1, writes, e1, r1, d1⟩ := read_writes h1
    simp only [List.cons.injEq, and_true] at e0 e1
    subst e0 e1
    simp only [Prod.mk.injEq] at hx
    obtain ⟨rfl, _⟩ := hx
    have hw2 : (DataW.weightsEach Try.prog [22, 23] [y0.1, y1.1]).all (· ≤ reachBytes) = true := by
      simpa [DataW.weights, Try.underlying25] using hw
    have b0 : Try.prog.bytesOf 9 = 16 := by kernel_rfl
    have b1 : Try.prog.bytesOf 48 = 24 := by kernel_rfl
    refine ⟨⟨safe, writes⟩, _, _, rfl, r0, r1, ?_, ?_⟩
    · rcases d0 with ⟨_, rfl⟩ | ⟨el, sp, hy, hel⟩
      · simp
      · have := sized_slice hw2 (j := 0) rfl (by simp [hy]; exact ⟨rfl, rfl⟩) Try.underlying22
        rw [b0] at this
        unfold reachBytes at this
        dsimp only
        omega
    · rcases d1 with ⟨_, rfl⟩ | ⟨el, sp, hy, hel⟩
      · simp
      · have := sized_slice hw2 (j := 1) rfl (by simp [hy]; exact ⟨rfl, rfl⟩) Try.underlying23
        rw [b1] at this
        unfold reachBytes at this
        dsimp only
        omega
end
end Go.Proofs.Ytjhmfljlclajnab

namespace Go.Proofs.Ytjhmfljlclajnab
open Go.RowKit Wb
theorem stamp_DecodeO (s : ByteArray) (w : World) (hz : s.size ≤ 9223372036854775807) :
    Calls Try.prog 16 #[.string s] w fun e w' => ∃ v, e = .returned (.tuple #[v, .int .i64 (decE s)]) ∧ OMark w.heap.size w' v (decM s) ∧ Below w.heap.size w w' := by
  by_cases h : okS s
  · exact stamp_Decode_ok s w h
  · exact stamp_Decode_no s w h hz
end Go.Proofs.Ytjhmfljlclajnab

namespace Wb
open Go Go.RowKit
structure Cpy where
  block : Int
  text : ByteArray
instance : Inhabited Cpy := ⟨⟨0, ⟨#[]⟩⟩⟩
def cpyC (x : Cpy) : List Value := [.int .i64 x.block, .string x.text]
theorem cpyC_flat : Flat cpyC 2 := ⟨fun _ => rfl, fun _ u hu => by simp [cpyC] at hu; rcases hu with rfl | rfl <;> rfl, by decide⟩
structure Hnd where
  on : Bool
  left : Int
structure Txn where
  seq : Int
  mt : List Cpy
  dt : List Cpy
  rev : List Int
  h0 : Hnd
  h1 : Hnd
  h2 : Hnd
def hnd0 : Hnd := ⟨false, 0⟩
def txn0 (seq : Int) : Txn := ⟨seq, [], [], [], hnd0, hnd0, hnd0⟩

/-! ### Lists of copies -/
def blks (l : List Cpy) : List Int := l.map (·.block)
/-- Is a copy of block b among them? -/
def hasB (l : List Cpy) (b : Int) : Bool := l.any (fun c => c.block == b)
def inI (l : List Int) (b : Int) : Bool := l.any (fun x => x == b)
def getC (l : List Cpy) (b : Int) : Option ByteArray := (l.find? (fun c => c.block == b)).map (·.text)
def copiesB (l : List Cpy) : Bool := rise (blks l) && l.all (fun c => ok32 c.text)
def hOk (h : Hnd) : Bool := decide (0 ≤ h.left ∧ h.left ≤ 24) && (h.on || decide (h.left = 0))
def seqOk (s : Int) : Bool := decide (1 ≤ s ∧ s ≤ 2147483647)
def apart (t : Txn) : Bool := t.rev.all (fun b => !hasB t.mt b && !hasB t.dt b) && t.mt.all (fun c => !hasB t.dt c.block)
def goodT (t : Txn) : Bool := seqOk t.seq && copiesB t.mt && copiesB t.dt && rise t.rev && apart t && (hOk t.h0 && hOk t.h1 && hOk t.h2)
theorem goodT_iff (t : Txn) : goodT t = true ↔ seqOk t.seq = true ∧ copiesB t.mt = true ∧ copiesB t.dt = true ∧ rise t.rev = true ∧ apart t = true ∧ hOk t.h0 = true ∧ hOk t.h1 = true ∧ hOk t.h2 = true := by
  unfold goodT; simp only [Bool.and_eq_true, and_assoc]

/-- Three cells and seven: a transaction by value. -/
def txnV (t : Txn) (vm vd vr : Value) : Value := .agg #[.int .i64 t.seq, vm, vd, vr, .bool t.h0.on, .int .i64 t.h0.left, .bool t.h1.on, .int .i64 t.h1.left, .bool t.h2.on, .int .i64 t.h2.left]
def RTxn (w : World) (v : Value) (t : Txn) : Prop :=
  ∃ vm vd vr, v = txnV t vm vd vr ∧ RL cpyC w vm t.mt ∧ RL cpyC w vd t.dt ∧ RL intC w vr t.rev ∧ t.mt.length ≤ 5864062014805 ∧ t.dt.length ≤ 5864062014805 ∧ t.rev.length ≤ 17592186044160
theorem RTxn.below {w w' : World} {v : Value} {t : Txn} (h : RTxn w v t) (hb : Below w.heap.size w w') : RTxn w' v t := by
  obtain ⟨vm, vd, vr, hv, h1, h2, h3, h4⟩ := h
  exact ⟨vm, vd, vr, hv, h1.below hb, h2.below hb, h3.below hb, h4⟩

/-! ### Lists of transactions: what their cells hold -/
structure SlV where
  a : Option Addr
  n : Nat
  c : Nat
def SlV.val (x : SlV) : Value := .slice x.a x.n x.c
structure TV where
  t : Txn
  m : SlV
  d : SlV
  r : SlV
def tvC (x : TV) : List Value := [.int .i64 x.t.seq, x.m.val, x.d.val, x.r.val, .bool x.t.h0.on, .int .i64 x.t.h0.left, .bool x.t.h1.on, .int .i64 x.t.h1.left, .bool x.t.h2.on, .int .i64 x.t.h2.left]
theorem tvC_flat : Flat tvC 10 := ⟨fun _ => rfl, fun _ u hu => by simp [tvC, SlV.val] at hu; rcases hu with rfl | rfl | rfl | rfl | rfl | rfl | rfl | rfl | rfl | rfl <;> rfl, by decide⟩
def TV.val (x : TV) : Value := txnV x.t x.m.val x.d.val x.r.val
/-- The cells of x read as the transaction x.t. -/
def TV.ok (w : World) (x : TV) : Prop := RTxn w x.val x.t
theorem RTxn.tv {w : World} {v : Value} {t : Txn} (h : RTxn w v t) : ∃ x : TV, x.t = t ∧ v = x.val ∧ x.ok w := by
  have hh := h
  obtain ⟨vm, vd, vr, rfl, h1, h2, h3, h4⟩ := h
  obtain ⟨a, c, rfl, _⟩ := h1.form
  obtain ⟨a2, c2, rfl, _⟩ := h2.form
  obtain ⟨a3, c3, rfl, _⟩ := h3.form
  exact ⟨⟨t, ⟨a, _, c⟩, ⟨a2, _, c2⟩, ⟨a3, _, c3⟩⟩, rfl, rfl, hh⟩
/-- A slice of transactions, as it is read. -/
def RTxns (w : World) (v : Value) (l : List Txn) : Prop := ∃ xs : List TV, RL tvC w v xs ∧ xs.map (·.t) = l ∧ (∀ x ∈ xs, x.ok w) ∧ xs.length ≤ 1099511627744
theorem RTxns.below {w w' : World} {v : Value} {l : List Txn} (h : RTxns w v l) (hb : Below w.heap.size w w') : RTxns w' v l := by
  obtain ⟨xs, h1, h2, h3, h4⟩ := h
  exact ⟨xs, h1.below hb, h2, fun x hx => (h3 x hx).below hb, h4⟩
theorem RTxns.nil (w : World) : RTxns w (.slice none 0 0) [] := ⟨[], RL.nil _ _, rfl, (fun _ h => absurd h List.not_mem_nil), by decide⟩
theorem RTxns.form {w : World} {v : Value} {l : List Txn} (h : RTxns w v l) : ∃ a c, v = .slice a l.length c ∧ l.length ≤ 1099511627744 := by
  obtain ⟨xs, h1, rfl, h3, h4⟩ := h
  obtain ⟨a, c, hv, _⟩ := h1.form
  exact ⟨a, c, by rw [hv, List.length_map], by rw [List.length_map]; exact h4⟩
theorem RL.at10 {α : Type} {f : α → List Value} {w : World} {a : Option Addr} {n cap : Nat} {l : List α} (g0 g1 g2 g3 g4 g5 g6 g7 g8 g9 : α → Value) (hf : ∀ x, f x = [g0 x, g1 x, g2 x, g3 x, g4 x, g5 x, g6 x, g7 x, g8 x, g9 x]) (h : RL f w (.slice a n cap) l) {k : Nat} (hk : k < l.length) :
    ∃ b off, a = some ⟨b, off, none⟩ ∧ w.cell? ⟨b, off + k * 10, none⟩ = some (g0 l[k]) ∧ w.cell? ⟨b, off + k * 10 + 1, none⟩ = some (g1 l[k]) ∧ w.cell? ⟨b, off + k * 10 + 2, none⟩ = some (g2 l[k]) ∧ w.cell? ⟨b, off + k * 10 + 3, none⟩ = some (g3 l[k]) ∧ w.cell? ⟨b, off + k * 10 + 4, none⟩ = some (g4 l[k]) ∧ w.cell? ⟨b, off + k * 10 + 5, none⟩ = some (g5 l[k]) ∧ w.cell? ⟨b, off + k * 10 + 6, none⟩ = some (g6 l[k]) ∧ w.cell? ⟨b, off + k * 10 + 7, none⟩ = some (g7 l[k]) ∧ w.cell? ⟨b, off + k * 10 + 8, none⟩ = some (g8 l[k]) ∧ w.cell? ⟨b, off + k * 10 + 9, none⟩ = some (g9 l[k]) := by
  obtain ⟨b, off, ha, hc⟩ := RL.at (c := 10) (fun x => by rw [hf]; rfl) h hk (by decide)
  exact ⟨b, off, ha, hc 0 _ (by rw [hf]; rfl), hc 1 _ (by rw [hf]; rfl), hc 2 _ (by rw [hf]; rfl), hc 3 _ (by rw [hf]; rfl), hc 4 _ (by rw [hf]; rfl), hc 5 _ (by rw [hf]; rfl), hc 6 _ (by rw [hf]; rfl), hc 7 _ (by rw [hf]; rfl), hc 8 _ (by rw [hf]; rfl), hc 9 _ (by rw [hf]; rfl)⟩
/-- Element k of a slice of transactions: ten cells that read as it. -/
theorem RTxns.at {w : World} {a : Option Addr} {n cap : Nat} {l : List Txn} (h : RTxns w (.slice a n cap) l) {k : Nat} (hk : k < l.length) :
    ∃ b off vm vd vr, a = some ⟨b, off, none⟩ ∧ RTxn w (txnV l[k] vm vd vr) l[k] ∧ w.cell? ⟨b, off + k * 10, none⟩ = some (.int .i64 l[k].seq) ∧ w.cell? ⟨b, off + k * 10 + 1, none⟩ = some vm ∧ w.cell? ⟨b, off + k * 10 + 2, none⟩ = some vd ∧ w.cell? ⟨b, off + k * 10 + 3, none⟩ = some vr ∧ w.cell? ⟨b, off + k * 10 + 4, none⟩ = some (.bool l[k].h0.on) ∧ w.cell? ⟨b, off + k * 10 + 5, none⟩ = some (.int .i64 l[k].h0.left) ∧ w.cell? ⟨b, off + k * 10 + 6, none⟩ = some (.bool l[k].h1.on) ∧ w.cell? ⟨b, off + k * 10 + 7, none⟩ = some (.int .i64 l[k].h1.left) ∧ w.cell? ⟨b, off + k * 10 + 8, none⟩ = some (.bool l[k].h2.on) ∧ w.cell? ⟨b, off + k * 10 + 9, none⟩ = some (.int .i64 l[k].h2.left) := by
  obtain ⟨xs, h1, rfl, h3, h4⟩ := h
  have hk' : k < xs.length := by simpa using hk
  obtain ⟨b, off, ha, c0, c1, c2, c3, c4, c5, c6, c7, c8, c9⟩ := RL.at10 (fun x : TV => .int .i64 x.t.seq) (fun x => x.m.val) (fun x => x.d.val) (fun x => x.r.val) (fun x => .bool x.t.h0.on) (fun x => .int .i64 x.t.h0.left) (fun x => .bool x.t.h1.on) (fun x => .int .i64 x.t.h1.left) (fun x => .bool x.t.h2.on) (fun x => .int .i64 x.t.h2.left) (fun _ => rfl) h1 hk'
  have hx := h3 xs[k] (List.getElem_mem hk')
  simp only [List.getElem_map]
  exact ⟨b, off, _, _, _, ha, hx, c0, c1, c2, c3, c4, c5, c6, c7, c8, c9⟩

/-! ### Looking for a copy -/
theorem hasB_get (l : List Cpy) (b : Int) : hasB l b = (getC l b).isSome := by
  unfold hasB getC
  rw [Option.isSome_map]
  induction l with
  | nil => rfl
  | cons c l ih =>
    rw [List.any_cons, List.find?_cons]
    cases c.block == b with
    | true => rfl
    | false => simpa using ih
theorem getC_step {l : List Cpy} {b : Int} {k : Nat} (hk : k < l.length) (h : hasB (l.take k) b = false) (hb : l[k].block = b) : getC l b = some l[k].text := by
  have hn : (l.take k).find? (fun c => c.block == b) = none := by
    rw [List.find?_eq_none]
    intro x hx hh
    unfold hasB at h
    rw [List.any_eq_false] at h
    exact h x hx hh
  have e : l.find? (fun c => c.block == b) = some l[k] := by
    conv => lhs; rw [← List.take_append_drop k l]
    rw [List.find?_append, hn, Option.none_or, List.drop_eq_getElem_cons hk, List.find?_cons, beq_iff_eq.2 hb]
  unfold getC
  rw [e]; rfl
theorem hasB_step {l : List Cpy} {b : Int} {k : Nat} (hk : k < l.length) : hasB (l.take (k + 1)) b = (hasB (l.take k) b || (l[k].block == b)) := by
  unfold hasB
  rw [List.take_succ_eq_append_getElem hk, List.any_append]
  simp
theorem hasB_full {l : List Cpy} {b : Int} {k : Nat} (hk : ¬ k < l.length) : hasB (l.take k) b = hasB l b := by rw [List.take_of_length_le (by omega)]
theorem getC_none {l : List Cpy} {b : Int} (h : hasB l b = false) : getC l b = none := by
  rw [hasB_get] at h
  cases hg : getC l b with
  | none => rfl
  | some x => rw [hg] at h; cases h
theorem inI_step {l : List Int} {b : Int} {k : Nat} (hk : k < l.length) : inI (l.take (k + 1)) b = (inI (l.take k) b || (l[k] == b)) := by
  unfold inI
  rw [List.take_succ_eq_append_getElem hk, List.any_append]
  simp
theorem inI_full {l : List Int} {b : Int} {k : Nat} (hk : ¬ k < l.length) : inI (l.take k) b = inI l b := by rw [List.take_of_length_le (by omega)]
theorem inI_hit {l : List Int} {b : Int} {k : Nat} (hk : k < l.length) (hb : l[k] = b) : inI l b = true := by
  unfold inI
  exact List.any_eq_true.2 ⟨_, List.getElem_mem hk, beq_iff_eq.2 hb⟩
theorem hasB_hit {l : List Cpy} {b : Int} {k : Nat} (hk : k < l.length) (hb : l[k].block = b) : hasB l b = true := by
  unfold hasB
  exact List.any_eq_true.2 ⟨_, List.getElem_mem hk, beq_iff_eq.2 hb⟩
end Wb

namespace Wb
open Go Go.RowKit
/-- The copies that follow a descriptor. -/
def takeTags : List Tag → List ByteArray → List Cpy → Option (List Cpy × List ByteArray)
  | [], r, mt => some (mt, r)
  | _ :: _, [], _ => none
  | g :: gs, s :: r, mt => takeTags gs r (mt ++ [⟨g.block, unescS s g.esc⟩])
/-- The transaction of a number that blocks begin with, and what follows. -/
def parseT (seq : Int) : Nat → List ByteArray → Txn → Option (Txn × List ByteArray)
  | 0, _, _ => none
  | _ + 1, [], _ => none
  | n + 1, s :: r, t =>
    if decE s = 0 ∧ (decM s).seq = seq then
      if (decM s).kind = 4 then some (t, r)
      else if (decM s).kind = 3 then parseT seq n r { t with rev := t.rev ++ (decM s).blocks }
      else if (decM s).kind = 2 then
        match takeTags (decM s).tags r t.mt with
        | some (mt, r') => parseT seq n r' { t with mt := mt }
        | none => none
      else none
    else none
theorem takeTags_len {gs : List Tag} {r r' : List ByteArray} {mt mt' : List Cpy} (h : takeTags gs r mt = some (mt', r')) : r'.length + gs.length = r.length ∧ mt'.length = mt.length + gs.length := by
  induction gs generalizing r mt with
  | nil =>
    simp only [takeTags, Option.some.injEq, Prod.mk.injEq] at h
    obtain ⟨rfl, rfl⟩ := h
    exact ⟨rfl, rfl⟩
  | cons g gs ih =>
    cases r with
    | nil => cases h
    | cons s r =>
      have := ih h
      simp only [List.length_cons, List.length_append, List.length_nil] at this ⊢
      omega
theorem parseT_len {seq : Int} {n : Nat} {r r' : List ByteArray} {t t' : Txn} (h : parseT seq n r t = some (t', r')) : r'.length < r.length := by
  induction n generalizing r t with
  | zero => cases h
  | succ n ih =>
    cases r with
    | nil => cases h
    | cons s r =>
      unfold parseT at h
      by_cases h1 : decE s = 0 ∧ (decM s).seq = seq
      · rw [if_pos h1] at h
        by_cases h2 : (decM s).kind = 4
        · rw [if_pos h2] at h
          simp only [Option.some.injEq, Prod.mk.injEq] at h
          rw [← h.2]
          exact Nat.lt_succ_self _
        · rw [if_neg h2] at h
          by_cases h3 : (decM s).kind = 3
          · rw [if_pos h3] at h
            have := ih h
            simp only [List.length_cons]; omega
          · rw [if_neg h3] at h
            by_cases h4 : (decM s).kind = 2
            · rw [if_pos h4] at h
              cases hm : takeTags (decM s).tags r t.mt with
              | none => rw [hm] at h; cases h
              | some p =>
                obtain ⟨mt, r2⟩ := p
                rw [hm] at h
                have h5 := takeTags_len hm
                have := ih h
                simp only [List.length_cons]; omega
            · rw [if_neg h4] at h; cases h
      · rw [if_neg h1] at h; cases h
/-- Enough fuel is enough. -/
theorem parseT_fuel {seq : Int} {n m : Nat} {r : List ByteArray} {t : Txn} (hn : r.length < n) (hm : r.length < m) : parseT seq n r t = parseT seq m r t := by
  induction n generalizing m r t with
  | zero => omega
  | succ n ih =>
    cases m with
    | zero => omega
    | succ m =>
      cases r with
      | nil => rfl
      | cons s r =>
        simp only [List.length_cons] at hn hm
        unfold parseT
        split
        · split
          · rfl
          · split
            · exact ih (by omega) (by omega)
            · split
              · cases hk : takeTags (decM s).tags r t.mt with
                | none => rfl
                | some p =>
                  have h5 := takeTags_len hk
                  exact ih (by omega) (by omega)
              · rfl
        · rfl
structure Fnd where
  txns : List Txn
  next : Int
  at_ : Int
/-- The transactions that count, from a number on; the number behind them; what is left of the log. -/
def scanGo : Nat → List ByteArray → Int → List Txn × Int × List ByteArray
  | 0, r, n => ([], n, r)
  | k + 1, r, n =>
    if n < 2147483647 then
      match parseT n 25 r (txn0 n) with
      | some (t, r') => (t :: (scanGo k r' (n + 1)).1, (scanGo k r' (n + 1)).2)
      | none => ([], n, r)
    else ([], n, r)
/-- The log of a disk from a place on. -/
def logL (d : Dsk) (a : Int) : List ByteArray := (List.range 24).map fun (i : Nat) => readD d (1 + (a + (i : Int)) % 24)
theorem logL_len (d : Dsk) (a : Int) : (logL d a).length = 24 := by simp [logL]
def scanE (d : Dsk) : Int := if readE d 0 = 0 then (if decE (readD d 0) = 0 ∧ (decM (readD d 0)).kind = 1 then 0 else 1) else 2
def scanF (d : Dsk) : Fnd :=
  if scanE d = 0 then
    ⟨(scanGo 25 (logL d (decM (readD d 0)).at_) (decM (readD d 0)).seq).1, (scanGo 25 (logL d (decM (readD d 0)).at_) (decM (readD d 0)).seq).2.1, ((decM (readD d 0)).at_ + (24 - ((scanGo 25 (logL d (decM (readD d 0)).at_) (decM (readD d 0)).seq).2.2.length : Int))) % 24⟩
  else ⟨[], 0, 0⟩
end Wb

namespace Wb
open Go Go.RowKit
theorem Own.cellsOf {α : Type} {f : α → List Value} {base : Nat} {e : TypeId} {c : Nat} {w : World} {v : Value} {l : List α} (h : Own f base e c w v l) {g : Nat} (hg : v.ownBlock = some g) : ∃ cur, w.heap[g]? = some (.cells cur e (0, 0)) := by
  obtain ⟨_, h2⟩ := h
  rcases h2 with ⟨rfl, _⟩ | ⟨g', cap, cur, rfl, _, hh, _⟩
  · cases hg
  · simp only [Value.ownBlock, Option.some.injEq] at hg
    subst hg
    exact ⟨cur, hh⟩
theorem Own.apart {α β : Type} {f : α → List Value} {f2 : β → List Value} {base base2 : Nat} {e e2 : TypeId} {c c2 : Nat} {w : World} {v v2 : Value} {l : List α} {l2 : List β} (h : Own f base e c w v l) (h2 : Own f2 base2 e2 c2 w v2 l2) (hne : e ≠ e2) : v.ownBlock = none ∨ v.ownBlock ≠ v2.ownBlock := by
  cases hv : v.ownBlock with
  | none => exact .inl rfl
  | some g =>
    refine .inr fun hh => ?_
    obtain ⟨c1, h1⟩ := h.cellsOf hv
    obtain ⟨c2, h3⟩ := h2.cellsOf hh.symm
    rw [h1] at h3
    simp only [Option.some.injEq, Obj.cells.injEq] at h3
    exact hne h3.2.1
/-- What is owned stays, while a row of another type is appended to. -/
theorem Own.grownTy {α β : Type} {f : α → List Value} {f2 : β → List Value} {base base2 : Nat} {e e2 : TypeId} {c c2 : Nat} {w w' : World} {v v2 : Value} {l : List α} {l2 : List β} (h : Own f base e c w v l) (h2 : Own f2 base2 e2 c2 w v2 l2) (hne : e ≠ e2) (hg : w.grownBy w' v2.ownBlock) : Own f base e c w' v l :=
  h.grown hg (h.apart h2 hne)
/-- An owned transaction. -/
def OTxn (base : Nat) (tc ti : TypeId) (w : World) (v : Value) (t : Txn) : Prop :=
  ∃ vm vd vr, v = txnV t vm vd vr ∧ Own cpyC base tc 2 w vm t.mt ∧ Own cpyC base tc 2 w vd t.dt ∧ Own intC base ti 1 w vr t.rev ∧ t.mt.length ≤ 5864062014805 ∧ t.dt.length ≤ 5864062014805 ∧ t.rev.length ≤ 17592186044160
section
variable {base : Nat} {tc ti tt : TypeId} {w w' : World} {v : Value} {t : Txn}
theorem OTxn.reads (h : OTxn base tc ti w v t) : RTxn w v t := by
  obtain ⟨vm, vd, vr, hv, h1, h2, h3, h4⟩ := h
  exact ⟨vm, vd, vr, hv, h1.reads, h2.reads, h3.reads, h4⟩
theorem OTxn.below (h : OTxn base tc ti w v t) (hb : Below w.heap.size w w') : OTxn base tc ti w' v t := by
  obtain ⟨vm, vd, vr, hv, h1, h2, h3, h4⟩ := h
  exact ⟨vm, vd, vr, hv, h1.below hb, h2.below hb, h3.below hb, h4⟩
theorem OTxn.mono (h : OTxn base tc ti w v t) {b2 : Nat} (hb : b2 ≤ base) : OTxn b2 tc ti w v t := by
  obtain ⟨vm, vd, vr, hv, h1, h2, h3, h4⟩ := h
  exact ⟨vm, vd, vr, hv, h1.mono hb, h2.mono hb, h3.mono hb, h4⟩
theorem OTxn.grownTy {β : Type} {f2 : β → List Value} {base2 : Nat} {e2 : TypeId} {c2 : Nat} {v2 : Value} {l2 : List β} (h : OTxn base tc ti w v t) (h2 : Own f2 base2 e2 c2 w v2 l2) (hc : tc ≠ e2) (hi : ti ≠ e2) (hg : w.grownBy w' v2.ownBlock) : OTxn base tc ti w' v t := by
  obtain ⟨vm, vd, vr, hv, h1, h2', h3, h4⟩ := h
  exact ⟨vm, vd, vr, hv, h1.grownTy h2 hc hg, h2'.grownTy h2 hc hg, h3.grownTy h2 hi hg, h4⟩
theorem OTxn.tv (h : OTxn base tc ti w v t) : ∃ x : TV, x.t = t ∧ v = x.val ∧ OTxn base tc ti w x.val x.t := by
  obtain ⟨x, hx, hv, _⟩ := h.reads.tv
  exact ⟨x, hx, hv, by rw [hx, ← hv]; exact h⟩
/-- An owned list of owned transactions. -/
def OTxns (base : Nat) (tt tc ti : TypeId) (w : World) (v : Value) (l : List Txn) : Prop :=
  ∃ xs : List TV, Own tvC base tt 10 w v xs ∧ xs.map (·.t) = l ∧ ∀ x ∈ xs, OTxn base tc ti w x.val x.t
variable {l : List Txn}
theorem OTxns.nil (base : Nat) (tt tc ti : TypeId) (w : World) : OTxns base tt tc ti w (.slice none 0 0) [] := ⟨[], Own.nil _ _ _ _ _, rfl, fun _ h => absurd h List.not_mem_nil⟩
theorem OTxns.below (h : OTxns base tt tc ti w v l) (hb : Below w.heap.size w w') : OTxns base tt tc ti w' v l := by
  obtain ⟨xs, h1, h2, h3⟩ := h
  exact ⟨xs, h1.below hb, h2, fun x hx => (h3 x hx).below hb⟩
theorem OTxns.mono (h : OTxns base tt tc ti w v l) {b2 : Nat} (hb : b2 ≤ base) : OTxns b2 tt tc ti w v l := by
  obtain ⟨xs, h1, h2, h3⟩ := h
  exact ⟨xs, h1.mono hb, h2, fun x hx => (h3 x hx).mono hb⟩
theorem OTxns.reads (h : OTxns base tt tc ti w v l) (hl : l.length ≤ 1099511627744) : RTxns w v l := by
  obtain ⟨xs, h1, rfl, h3⟩ := h
  exact ⟨xs, h1.reads, rfl, fun x hx => (h3 x hx).reads, by simpa using hl⟩
theorem OTxns.form (h : OTxns base tt tc ti w v l) : ∃ a c, v = .slice a l.length c := by
  obtain ⟨xs, h1, rfl, h3⟩ := h
  obtain ⟨a, c, hv⟩ := h1.form
  exact ⟨a, c, by rw [hv, List.length_map]⟩
/-- Behind an append of one more. -/
theorem OTxns.pushed {xs : List TV} {v' : Value} {y : TV} (h1 : Own tvC base tt 10 w v xs) (h3 : ∀ x ∈ xs, OTxn base tc ti w x.val x.t) (hy : OTxn base tc ti w y.val y.t) (hc : tc ≠ tt) (hi : ti ≠ tt) (ho : Own tvC base tt 10 w' v' (xs ++ [y])) (hg : w.grownBy w' v.ownBlock) :
    OTxns base tt tc ti w' v' (xs.map (·.t) ++ [y.t]) := by
  refine ⟨xs ++ [y], ho, by simp, fun x hx => ?_⟩
  rcases List.mem_append.1 hx with hx | hx
  · exact (h3 x hx).grownTy h1 hc hi hg
  · rw [List.mem_singleton] at hx
    subst hx
    exact hy.grownTy h1 hc hi hg
end
/-- Element k of a slice of transactions, its slices written out. -/
theorem RTxns.at3 {w : World} {a : Option Addr} {n cap : Nat} {l : List Txn} (h : RTxns w (.slice a n cap) l) {k : Nat} (hk : k < l.length) :
    ∃ b off am cm ad cd ar cr, a = some ⟨b, off, none⟩ ∧ RTxn w (txnV l[k] (.slice am l[k].mt.length cm) (.slice ad l[k].dt.length cd) (.slice ar l[k].rev.length cr)) l[k] ∧ w.cell? ⟨b, off + k * 10, none⟩ = some (.int .i64 l[k].seq) ∧ w.cell? ⟨b, off + k * 10 + 1, none⟩ = some (.slice am l[k].mt.length cm) ∧ w.cell? ⟨b, off + k * 10 + 2, none⟩ = some (.slice ad l[k].dt.length cd) ∧ w.cell? ⟨b, off + k * 10 + 3, none⟩ = some (.slice ar l[k].rev.length cr) ∧ w.cell? ⟨b, off + k * 10 + 4, none⟩ = some (.bool l[k].h0.on) ∧ w.cell? ⟨b, off + k * 10 + 5, none⟩ = some (.int .i64 l[k].h0.left) ∧ w.cell? ⟨b, off + k * 10 + 6, none⟩ = some (.bool l[k].h1.on) ∧ w.cell? ⟨b, off + k * 10 + 7, none⟩ = some (.int .i64 l[k].h1.left) ∧ w.cell? ⟨b, off + k * 10 + 8, none⟩ = some (.bool l[k].h2.on) ∧ w.cell? ⟨b, off + k * 10 + 9, none⟩ = some (.int .i64 l[k].h2.left) := by
  obtain ⟨b, off, vm, vd, vr, ha, hr, c0, c1, c2, c3, c4⟩ := h.at hk
  have hr' := hr
  obtain ⟨vm', vd', vr', hv, hm, hd, hrr, n1, n2, n3⟩ := hr
  simp only [txnV, Value.agg.injEq, Array.mk.injEq, List.cons.injEq, and_true, true_and] at hv
  obtain ⟨rfl, rfl, rfl⟩ := hv
  obtain ⟨am, cm, rfl, _⟩ := hm.form
  obtain ⟨ad, cd, rfl, _⟩ := hd.form
  obtain ⟨ar, cr, rfl, _⟩ := hrr.form
  exact ⟨b, off, am, cm, ad, cd, ar, cr, ha, hr', c0, c1, c2, c3, c4⟩
end Wb

namespace Go.Proofs.Ytjhmfljlclajnab
open Go.RowKit Wb
set_option linter.unusedVariables false
set_option linter.unusedSimpArgs false
set_option maxRecDepth 100000
set_option maxHeartbeats 4000000

theorem disk_at (n : Int) (w : World) : Calls Try.prog 53 #[.int .i64 n] w fun e w' => e = .returned (.bool (isAt n)) ∧ w = w' := by
  by_cases h0 : 0 ≤ n
  · by_cases h1 : n < 37
    · have hv : isAt n = true := decide_eq_true ⟨h0, h1⟩
      rw [hv]
      go_enter Try.func53, Try.ntmps53
      go_wp2
      go_ret
      exact ⟨rfl, rfl⟩
    · have hv : isAt n = false := decide_eq_false fun hh => h1 hh.2
      rw [hv]
      go_enter Try.func53, Try.ntmps53
      go_wp2
      go_ret
      exact ⟨rfl, rfl⟩
  · have hv : isAt n = false := decide_eq_false fun hh => h0 hh.1
    rw [hv]
    go_enter Try.func53, Try.ntmps53
    go_wp2
    go_ret
    exact ⟨rfl, rfl⟩

theorem ref_isAt (n : Int) (w : World) : Calls Try.prog 74 #[.int .i64 n] w fun e w' => e = .returned (.bool (isAt n)) ∧ w = w' := by
  by_cases h0 : 0 ≤ n
  · by_cases h1 : n ≤ 36
    · have hv : isAt n = true := decide_eq_true ⟨h0, by omega⟩
      rw [hv]
      go_enter Try.func74, Try.ntmps74
      go_wp2
      go_ret
      exact ⟨rfl, rfl⟩
    · have hv : isAt n = false := decide_eq_false fun hh => h1 (by omega)
      rw [hv]
      go_enter Try.func74, Try.ntmps74
      go_wp2
      go_ret
      exact ⟨rfl, rfl⟩
  · have hv : isAt n = false := decide_eq_false fun hh => h0 hh.1
    rw [hv]
    go_enter Try.func74, Try.ntmps74
    go_wp2
    go_ret
    exact ⟨rfl, rfl⟩

theorem disk_Good1 (s : ByteArray) (w : World) : Calls Try.prog 55 #[.string s] w fun e w' => e = .returned (.bool (!ok32 s)) ∧ w = w' := by
  by_cases h0 : s.size = 32
  · have hv : ok32 s = true := decide_eq_true h0
    rw [hv]
    have h1 : ((s.size : Int) != 32) = false := by rw [h0]; rfl
    go_enter Try.func55, Try.ntmps55
    go_wp2
    go_ret
    exact ⟨rfl, rfl⟩
  · have hv : ok32 s = false := decide_eq_false h0
    rw [hv]
    have h1 : ((s.size : Int) != 32) = true := bne_iff_ne.2 (by omega)
    go_enter Try.func55, Try.ntmps55
    go_wp2
    go_ret
    exact ⟨rfl, rfl⟩

theorem slices_IndexFunc (v : Value) (xs : List ByteArray) (w : World) (hx : RL strC w v xs) (hn : xs.length ≤ 8796093022208) :
    Calls Try.prog 79 #[v, .func (.func 55) #[] #[]] w fun e w' => (∃ r : Int, e = .returned (.int .i64 r) ∧ idxIs (xs.all ok32) r) ∧ w = w' := by
  obtain ⟨a, cap, rfl, c1, c2⟩ := hx.form
  have hno := fun k (hk : k < xs.length) (hp : ok32 xs[k] = false) => all_no hk hp
  have hful := fun k (hk : k ≤ xs.length) (hn : ¬ k < xs.length) (hp : (xs.take k).all ok32 = true) => all_full hk hn hp
  generalize xs.all ok32 = ai at *
  replace hno := hid hno
  replace hful := hid hful
  go_enter Try.func79, Try.ntmps79
  go_wp2
  go_loop [5, 8] (fun _ i => ∃ k : Nat, k ≤ xs.length ∧ i = .int .i64 k ∧ Hid ((xs.take k).all ok32 = true)) (fun _ i => xs.length - (intOf i).toNat)
  case atStart => exact ⟨0, Nat.zero_le _, rfl, rfl⟩
  case round =>
    obtain ⟨k, hk, rfl, hall⟩ := hrel
    by_cases hlt : k < xs.length
    · obtain ⟨b, off, rfl, d0⟩ := RL.at1 (fun x => .string x) (fun _ => rfl) hx hlt
      have hG := fun w => disk_Good1 xs[k] w
      cases hb : ok32 xs[k]
      · rw [hb] at hG
        obtain rfl := hno.out k hlt hb
        replace hG := hid hG
        clear hall hb
        generalize xs[k] = x at *
        go_wp2_with (go_at_call 55; refine (hG.out _).mono ?_; rintro e w1 ⟨rfl, rfl⟩)
        go_ret
        exact ⟨⟨_, rfl, Int.natCast_nonneg _⟩, rfl⟩
      · rw [hb] at hG
        have hs := hid (all_step hlt hall.out hb)
        replace hG := hid hG
        clear hall hb
        generalize xs[k] = x at *
        go_wp2_with (go_at_call 55; refine (hG.out _).mono ?_; rintro e w1 ⟨rfl, rfl⟩)
        go_round
        case rel => exact ⟨k + 1, by omega, by go_num, hs.out⟩
        case measure => simp [intOf]; omega
    · obtain rfl := hful.out k hk hlt hall.out
      clear hall
      go_wp2
      go_ret
      exact ⟨⟨_, rfl, rfl⟩, rfl⟩

theorem slices_ContainsFunc (v : Value) (xs : List ByteArray) (w : World) (hx : RL strC w v xs) (hn : xs.length ≤ 8796093022208) :
    Calls Try.prog 54 #[v, .func (.func 55) #[] #[]] w fun e w' => e = .returned (.bool (!xs.all ok32)) ∧ w = w' := by
  have hI := slices_IndexFunc v xs w hx hn
  obtain ⟨a, cap, rfl, c1, c2⟩ := hx.form
  clear hx
  cases hb : xs.all ok32
  · rw [hb] at hI
    replace hI := hid hI
    go_enter Try.func54, Try.ntmps54
    go_wp2_with (go_at_call 79; refine hI.out.mono ?_; rintro e w1 ⟨⟨r, rfl, hr⟩, rfl⟩; replace hr : 0 ≤ r := hr)
    go_ret
    exact ⟨rfl, rfl⟩
  · rw [hb] at hI
    replace hI := hid hI
    go_enter Try.func54, Try.ntmps54
    go_wp2_with (go_at_call 79; refine hI.out.mono ?_; rintro e w1 ⟨⟨r, rfl, hr⟩, rfl⟩; obtain rfl : r = -1 := hr)
    go_ret
    exact ⟨rfl, rfl⟩

theorem disk_Good (d : Dsk) (v : Value) (w : World) (hd : RDisk w v d) :
    Calls Try.prog 20 #[v] w fun e w' => e = .returned (.bool (goodD d)) ∧ Below w.heap.size w w' := by
  obtain ⟨vs, vw, rfl, hs, hw, n1, n2⟩ := hd
  obtain ⟨safe, writes⟩ := d
  dsimp only at *
  have hC := fun v w (hx : RL strC w v safe) => slices_ContainsFunc v safe w hx n1
  have hgi := goodD_iff ⟨safe, writes⟩
  dsimp only at hgi
  have hno : (¬ (safe.length = 37 ∧ writes.length ≤ 200 ∧ safe.all ok32 = true ∧ writes.all wrOk = true)) → goodD ⟨safe, writes⟩ = false := fun hh => by
    rw [← Bool.not_eq_true]; exact fun h2 => hh (hgi.1 h2)
  have hyes := hgi.2
  clear hgi
  generalize goodD ⟨safe, writes⟩ = g at *
  replace hno := hid hno
  replace hyes := hid hyes
  obtain ⟨a, cap, rfl, _⟩ := hs.form
  obtain ⟨b, bcap, rfl, _⟩ := hw.form
  replace hs := hid hs
  replace hw := hid hw
  have hC0 := fun (hb : safe.all ok32 = true) => hC
  by_cases h37 : safe.length ≠ 37
  · obtain rfl := hno.out (fun hh => h37 hh.1)
    have e1 : ((safe.length : Int) != 37) = true := bne_iff_ne.2 (by omega)
    clear hC hC0
    go_enter Try.func20, Try.ntmps20
    go_wp2
    go_ret
    exact ⟨rfl, by repeat (first | exact Below.refl _ _ | with_reducible assumption | (refine allocB ?_ (by first | omega | (simp; done) | (simp; omega)) _) | (refine Below.setCell ?_ (by first | omega | (simp; done) | (simp; omega)) _) | refine Below.drew ?_ | (refine Below.trans ?_ (Below.mono (by with_reducible assumption) (by first | omega | (simp; done) | (simp; omega)))))⟩
  replace h37 := Decidable.not_not.1 h37
  have e1 : ((safe.length : Int) != 37) = false := by rw [h37]; rfl
  by_cases h200 : ¬ writes.length ≤ 200
  · obtain rfl := hno.out (fun hh => h200 hh.2.1)
    clear hC hC0
    go_enter Try.func20, Try.ntmps20
    go_wp2
    go_ret
    exact ⟨rfl, by repeat (first | exact Below.refl _ _ | with_reducible assumption | (refine allocB ?_ (by first | omega | (simp; done) | (simp; omega)) _) | (refine Below.setCell ?_ (by first | omega | (simp; done) | (simp; omega)) _) | refine Below.drew ?_ | (refine Below.trans ?_ (Below.mono (by with_reducible assumption) (by first | omega | (simp; done) | (simp; omega)))))⟩
  replace h200 := Decidable.not_not.1 h200
  clear hC0
  replace hC := hid hC
  replace h37 := hid h37
  have kb : Blk (w.alloc (.cells #[.slice a safe.length cap, .slice b writes.length bcap] 25)) w.heap.size #[.slice a safe.length cap, .slice b writes.length bcap] 25 := Blk.new w _ _
  have nf : 0 < w.heap.size + 1 := by omega
  go_enter Try.func20, Try.ntmps20
  go_wp2
  go_loopw [4, 18] (fun _ i wr => ∃ k : Nat, k ≤ writes.length ∧ i = .int .i64 k ∧ Hid ((writes.take k).all wrOk = true) ∧ Blk wr w.heap.size #[.slice a safe.length cap, .slice b writes.length bcap] 25 ∧ Below w.heap.size w wr) (fun _ i _ => writes.length - (intOf i).toNat)
  case atStart => exact ⟨0, Nat.zero_le _, rfl, rfl, kb, by repeat (first | exact Below.refl _ _ | with_reducible assumption | (refine allocB ?_ (by first | omega | (simp; done) | (simp; omega)) _) | (refine Below.setCell ?_ (by first | omega | (simp; done) | (simp; omega)) _) | refine Below.drew ?_ | (refine Below.trans ?_ (Below.mono (by with_reducible assumption) (by first | omega | (simp; done) | (simp; omega)))))⟩
  case round =>
    obtain ⟨k, hk, rfl, hall, kb, hnx⟩ := hrel
    have lt0 := kb.lt
    by_cases hlt : k < writes.length
    · obtain ⟨b, off, rfl, d0, d1⟩ := RL.at2 (fun x => .int .i64 x.at_) (fun x => .string x.text) (fun _ => rfl) (hw.out.below hnx) hlt
      have lt1 := World.block_lt_of_cell? _ _ d0
      dsimp only at lt1
      have hA := fun w => disk_at writes[k].at_ w
      by_cases ha : isAt writes[k].at_ = true
      · rw [ha] at hA
        replace hA := hid hA
        by_cases ht : ok32 writes[k].text = true
        · have hst := hid (all_step hlt hall.out (by unfold wrOk; rw [ha, ht]; rfl))
          have e2 : ((writes[k].text.size : Int) != 32) = false := by rw [of_decide_eq_true ht]; rfl
          clear ha ht hall hno hyes
          generalize writes[k] = x at *
          go_wp2_with (go_at_call 53; refine (hA.out _).mono ?_; rintro e w1 ⟨rfl, rfl⟩)
          go_roundw
          case rel => exact ⟨k + 1, by omega, by go_num, hst, kb.alloc _, allocB hnx (by omega) _⟩
          case measure => simp [intOf]; omega
        · obtain rfl := hno.out (fun hh => by
            have := all_no hlt (p := wrOk) (by unfold wrOk; rw [ha, Bool.not_eq_true _ |>.mp ht]; rfl)
            rw [this] at hh; exact Bool.noConfusion hh.2.2.2)
          have e2 : ((writes[k].text.size : Int) != 32) = true := bne_iff_ne.2 (fun hh => ht (decide_eq_true (by omega)))
          clear ha ht hall hno hyes
          generalize writes[k] = x at *
          go_wp2_with (go_at_call 53; refine (hA.out _).mono ?_; rintro e w1 ⟨rfl, rfl⟩)
          go_ret
          exact ⟨rfl, allocB hnx (by omega) _⟩
      · obtain rfl := hno.out (fun hh => by
          have := all_no hlt (p := wrOk) (by unfold wrOk; rw [Bool.not_eq_true _ |>.mp ha]; rfl)
          rw [this] at hh; exact Bool.noConfusion hh.2.2.2)
        rw [Bool.not_eq_true _ |>.mp ha] at hA
        replace hA := hid hA
        clear ha hall hno hyes
        generalize writes[k] = x at *
        go_wp2_with (go_at_call 53; refine (hA.out _).mono ?_; rintro e w1 ⟨rfl, rfl⟩)
        go_ret
        exact ⟨rfl, allocB hnx (by omega) _⟩
    · have hf := hid (all_full hk hlt hall.out)
      have c0 := kb.cell 0
      simp only [List.getElem?_toArray, List.getElem?_cons_zero, List.getElem?_cons_succ] at c0
      clear hall
      cases hb : safe.all ok32
      · obtain rfl := hno.out (fun hh => by rw [hb] at hh; exact Bool.noConfusion hh.2.2.1)
        rw [hb] at hC
        clear hno hyes hb
        go_wp2_with (go_at_call 54; refine (hC.out _ _ (hs.out.below hnx)).mono ?_; rintro e w1 ⟨rfl, rfl⟩)
        go_ret
        exact ⟨rfl, hnx⟩
      · obtain rfl := hyes.out ⟨h37.out, h200, hb, hf.out⟩
        rw [hb] at hC
        clear hno hyes hb
        go_wp2_with (go_at_call 54; refine (hC.out _ _ (hs.out.below hnx)).mono ?_; rintro e w1 ⟨rfl, rfl⟩)
        go_ret
        exact ⟨rfl, hnx⟩
end Go.Proofs.Ytjhmfljlclajnab

namespace Go.Proofs.Ytjhmfljlclajnab
open Go.RowKit Wb
set_option linter.unusedVariables false
set_option linter.unusedSimpArgs false
set_option maxRecDepth 100000
set_option maxHeartbeats 4000000

theorem disk_Read (d : Dsk) (n : Int) (v : Value) (w : World) (hd : RDisk w v d) :
    Calls Try.prog 21 #[v, .int .i64 n] w fun e w' => e = .returned (.tuple #[.string (readD d n), .int .i64 (readE d n)]) ∧ Below w.heap.size w w' := by
  have hG := fun w (hh : RDisk w v d) => disk_Good d v w hh
  have hA := fun w => disk_at n w
  have hd2 := hd
  obtain ⟨vs, vw, rfl, hs, hw, n1, n2⟩ := hd
  obtain ⟨a, cap, rfl, _⟩ := hs.form
  obtain ⟨b, bcap, rfl, _⟩ := hw.form
  replace hd2 := hid hd2
  by_cases hg : goodD d = true
  · rw [hg] at hG
    by_cases ha : isAt n = true
    · rw [ha] at hA
      have hr : readD d n = lastT (safeAt d n) n (d.writes.take d.writes.length) := by unfold readD; rw [if_pos ⟨hg, ha⟩, List.take_length]
      have he : readE d n = 0 := by unfold readE; rw [if_pos ⟨hg, ha⟩]
      rw [he]
      obtain ⟨g1, g2, _, _⟩ := (goodD_iff d).1 hg
      obtain ⟨h0, h1⟩ : 0 ≤ n ∧ n < 37 := of_decide_eq_true ha
      obtain ⟨m, rfl⟩ : ∃ m : Nat, n = m := ⟨n.toNat, by omega⟩
      have hm : m < d.safe.length := by omega
      have hsf : safeAt d m = d.safe[m] := by simp [safeAt, hm]
      rw [hsf] at hr
      clear hg ha he hsf
      generalize readD d m = r at *
      obtain ⟨safe, writes⟩ := d
      dsimp only at *
      have hlast := fun (k : Nat) (hk : k < writes.length) => lastT_hit safe[m] m hk
      have hmiss := fun (k : Nat) (hk : k < writes.length) => lastT_miss safe[m] m hk
      have hl0 := lastT_nil safe[m] m
      have hm3 : m < safe.length := hm
      replace hs := hid hs
      replace hw := hid hw
      replace hG := hid hG
      replace hA := hid hA
      replace hr := hid hr
      replace g1 := hid g1
      replace hlast := hid hlast
      replace hmiss := hid hmiss
      replace hl0 := hid hl0
      replace hm3 := hid hm3
      go_enter Try.func21, Try.ntmps21
      go_wp2_with (first
        | (go_at_call 20; refine (hG.out _ (hd2.out.below (by repeat (first | exact Below.refl _ _ | with_reducible assumption | (refine allocB ?_ (by first | omega | (simp; done) | (simp; omega)) _) | (refine Below.setCell ?_ (by first | omega | (simp; done) | (simp; omega)) _) | refine Below.drew ?_ | (refine Below.trans ?_ (Below.mono (by with_reducible assumption) (by first | omega | (simp; done) | (simp; omega)))))))).mono ?_; rintro e w1 ⟨rfl, hb1⟩; obtain ⟨hbc, hbf⟩ := bcell hb1; have hbz := hb1.size; try simp only [World.size_alloc, World.size_setCell, World.size_drew] at hbz; have hz0 := Nat.lt_of_lt_of_le (n := w.heap.size) (by omega) hbz)
        | (go_at_call 53; refine (hA.out _).mono ?_; rintro e w2 ⟨rfl, rfl⟩))
      have kb : Blk w1 w.heap.size #[.slice a safe.length cap, .slice b writes.length bcap] 25 := (Blk.new w _ _).step hb1
      have hnx : Below w.heap.size w w1 := by repeat (first | exact Below.refl _ _ | with_reducible assumption | (refine allocB ?_ (by first | omega | (simp; done) | (simp; omega)) _) | (refine Below.setCell ?_ (by first | omega | (simp; done) | (simp; omega)) _) | refine Below.drew ?_ | (refine Below.trans ?_ (Below.mono (by with_reducible assumption) (by first | omega | (simp; done) | (simp; omega)))))
      clear hb1 hbc hbf
      have lt0 := kb.lt
      have c0 := kb.cell 0
      have c1 := kb.cell 1
      simp only [List.getElem?_toArray, List.getElem?_cons_zero, List.getElem?_cons_succ] at c0 c1
      go_loop [6] (fun i => ∃ k : Nat, k ≤ writes.length ∧ i = .int .i64 ((k : Int) - 1) ∧ Hid (r = lastT safe[m] m (writes.take k))) (fun i => (intOf i + 1).toNat)
      case atStart => exact ⟨writes.length, Nat.le_refl _, rfl, hr.out⟩
      case round =>
        obtain ⟨k, hk, rfl, hrk⟩ := hrel
        rcases Nat.eq_zero_or_pos k with hk0 | hk0
        · subst hk0
          obtain ⟨b2, off, rfl, d0⟩ := RL.at1 (fun x => .string x) (fun _ => rfl) (hs.out.below hnx) hm3.out
          have hrs : r = safe[m] := by rw [hrk.out, List.take_zero]; exact hl0.out
          replace hrs := hid hrs
          clear hrk
          generalize safe[m] = sm at *
          go_wp2
          go_ret2
          exact ⟨ret_st hrs.out.symm, hnx⟩
        · obtain ⟨j, rfl⟩ : ∃ j, k = j + 1 := ⟨k - 1, by omega⟩
          have hj : j < writes.length := by omega
          obtain ⟨b2, off, rfl, d0, d1⟩ := RL.at2 (fun x => .int .i64 x.at_) (fun x => .string x.text) (fun _ => rfl) (hw.out.below hnx) hj
          by_cases heq : writes[j].at_ = m
          · have hrs : r = writes[j].text := by rw [hrk.out]; exact hlast.out j hj heq
            replace hrs := hid hrs
            have e1 : (writes[j].at_ == (m : Int)) = true := beq_iff_eq.2 heq
            clear hrk heq
            generalize writes[j] = x at *
            go_wp2
            go_ret2
            exact ⟨ret_st hrs.out.symm, hnx⟩
          · have hrs : r = lastT safe[m] m (writes.take j) := by rw [hrk.out]; exact hmiss.out j hj heq
            replace hrs := hid hrs
            have e1 : (writes[j].at_ == (m : Int)) = false := beq_eq_false_iff_ne.2 heq
            clear hrk heq
            generalize writes[j] = x at *
            go_wp2
            go_round
            case rel => exact ⟨j, by omega, by go_num, hrs⟩
            case measure => simp [intOf]
    · have hr : readD d n = ⟨#[]⟩ := by unfold readD; rw [if_neg (fun hh => ha hh.2)]
      have he : readE d n = 2 := by unfold readE; rw [if_neg (fun hh => ha hh.2)]
      rw [hr, he]
      rw [Bool.not_eq_true _ |>.mp ha] at hA
      clear hs hw ha hg hr he
      replace hG := hid hG
      replace hA := hid hA
      go_enter Try.func21, Try.ntmps21
      go_wp2_with (first
        | (go_at_call 20; refine (hG.out _ (hd2.out.below (by repeat (first | exact Below.refl _ _ | with_reducible assumption | (refine allocB ?_ (by first | omega | (simp; done) | (simp; omega)) _) | (refine Below.setCell ?_ (by first | omega | (simp; done) | (simp; omega)) _) | refine Below.drew ?_ | (refine Below.trans ?_ (Below.mono (by with_reducible assumption) (by first | omega | (simp; done) | (simp; omega)))))))).mono ?_; rintro e w1 ⟨rfl, hb1⟩; obtain ⟨hbc, hbf⟩ := bcell hb1; have hbz := hb1.size; try simp only [World.size_alloc, World.size_setCell, World.size_drew] at hbz; have hz0 := Nat.lt_of_lt_of_le (n := w.heap.size) (by omega) hbz)
        | (go_at_call 53; refine (hA.out _).mono ?_; rintro e w2 ⟨rfl, rfl⟩))
      go_ret2
      exact ⟨rfl, by repeat (first | exact Below.refl _ _ | with_reducible assumption | (refine allocB ?_ (by first | omega | (simp; done) | (simp; omega)) _) | (refine Below.setCell ?_ (by first | omega | (simp; done) | (simp; omega)) _) | refine Below.drew ?_ | (refine Below.trans ?_ (Below.mono (by with_reducible assumption) (by first | omega | (simp; done) | (simp; omega)))))⟩
  · have hr : readD d n = ⟨#[]⟩ := by unfold readD; rw [if_neg (fun hh => hg hh.1)]
    have he : readE d n = 2 := by unfold readE; rw [if_neg (fun hh => hg hh.1)]
    rw [hr, he]
    rw [Bool.not_eq_true _ |>.mp hg] at hG
    clear hs hw hg hr he
    replace hG := hid hG
    go_enter Try.func21, Try.ntmps21
    go_wp2_with (go_at_call 20; refine (hG.out _ (hd2.out.below (by repeat (first | exact Below.refl _ _ | with_reducible assumption | (refine allocB ?_ (by first | omega | (simp; done) | (simp; omega)) _) | (refine Below.setCell ?_ (by first | omega | (simp; done) | (simp; omega)) _) | refine Below.drew ?_ | (refine Below.trans ?_ (Below.mono (by with_reducible assumption) (by first | omega | (simp; done) | (simp; omega)))))))).mono ?_; rintro e w1 ⟨rfl, hb1⟩; obtain ⟨hbc, hbf⟩ := bcell hb1; have hbz := hb1.size; try simp only [World.size_alloc, World.size_setCell, World.size_drew] at hbz; have hz0 := Nat.lt_of_lt_of_le (n := w.heap.size) (by omega) hbz)
    go_ret2
    exact ⟨rfl, by repeat (first | exact Below.refl _ _ | with_reducible assumption | (refine allocB ?_ (by first | omega | (simp; done) | (simp; omega)) _) | (refine Below.setCell ?_ (by first | omega | (simp; done) | (simp; omega)) _) | refine Below.drew ?_ | (refine Below.trans ?_ (Below.mono (by with_reducible assumption) (by first | omega | (simp; done) | (simp; omega)))))⟩
end Go.Proofs.Ytjhmfljlclajnab

namespace Wb
open Go Go.RowKit
theorem gB {w w' : World} (h : Below w.heap.size w w') (row : Option Nat) : w.grownBy w' row := ⟨h.os, h.tape, h.output, h.size, fun k hk _ => h.block k hk⟩
theorem gSet {w w' : World} {b : Nat} (h : w.grownBy w' (some b)) (i : Nat) (v : Value) : w.grownBy (w'.setCell ⟨b, i, none⟩ v) (some b) :=
  ⟨h.os, h.tape, h.output, by simpa using h.size, fun k hk hne => by rw [Below.heap_setCell w' ⟨b, i, none⟩ v k (fun hh => hne (by rw [hh]))]; exact h.block k hk hne⟩
theorem gBelow {B b : Nat} {W w w' : World} (h : w.grownBy w' (some b)) (hw : Below B W w) (hs : B ≤ w.heap.size) (hb : B ≤ b) : Below B W w' :=
  hw.grown h hs (fun k hk => by cases hk; exact hb)
theorem gTrans {w w1 w2 : World} {row : Option Nat} (h : w.grownBy w1 row) (h2 : w1.grownBy w2 row) : w.grownBy w2 row :=
  ⟨h2.os.trans h.os, h2.tape.trans h.tape, h2.output.trans h.output, Nat.le_trans h.size h2.size, fun k hk hne => (h2.block k (Nat.lt_of_lt_of_le hk h.size) hne).trans (h.block k hk hne)⟩
end Wb
namespace Go.Proofs.Ytjhmfljlclajnab
open Go.RowKit Wb
set_option linter.unusedVariables false
set_option linter.unusedSimpArgs false
set_option maxRecDepth 100000
set_option maxHeartbeats 2000000

theorem scan_next0 (br : Nat) (vs vw : Value) (a : Int) (w : World) (k : Blk w br #[vs, vw, .int .i64 a, .int .i64 0] 87) :
    Calls Try.prog 80 #[.pointer (some ⟨br, 0, none⟩)] w fun e w' => e = .returned (.tuple #[.string ⟨#[]⟩, .bool false]) ∧ w = w' := by
  have c3 := k.cell 3
  simp only [List.getElem?_toArray, List.getElem?_cons_zero, List.getElem?_cons_succ] at c3
  go_enter Try.func80, Try.ntmps80
  go_wp2
  go_ret2
  exact ⟨rfl, rfl⟩

theorem scan_next1 (d : Dsk) (br : Nat) (vs vw : Value) (a lf : Int) (w : World) (hd : RDisk w (.agg #[vs, vw]) d) (k : Blk w br #[vs, vw, .int .i64 a, .int .i64 lf] 87)
    (a0 : 0 ≤ a) (a1 : a < 24) (l0 : 0 < lf) (l1 : lf ≤ 24) :
    Calls Try.prog 80 #[.pointer (some ⟨br, 0, none⟩)] w fun e w' => e = .returned (.tuple #[.string (readD d (1 + a)), .bool true]) ∧ Blk w' br #[vs, vw, .int .i64 ((a + 1) % 24), .int .i64 (lf - 1)] 87 ∧ w.grownBy w' (some br) := by
  have hR := fun w (hh : RDisk w (.agg #[vs, vw]) d) => disk_Read d (1 + a) _ w hh
  have c0 := k.cell 0; have c1 := k.cell 1; have c2 := k.cell 2; have c3 := k.cell 3
  simp only [List.getElem?_toArray, List.getElem?_cons_zero, List.getElem?_cons_succ] at c0 c1 c2 c3
  have hlf : (lf == 0) = false := beq_eq_false_iff_ne.2 (by omega)
  have lt := k.lt
  obtain ⟨vs', vw', hv, hs, hw, n1, n2⟩ := hd
  have hd : RDisk w (.agg #[vs, vw]) d := ⟨vs', vw', hv, hs, hw, n1, n2⟩
  simp only [Value.agg.injEq, Array.mk.injEq, List.cons.injEq, and_true] at hv
  obtain ⟨rfl, rfl⟩ := hv
  obtain ⟨as_, cs, rfl, _⟩ := hs.form
  obtain ⟨aw, cw, rfl, _⟩ := hw.form
  clear hs hw
  generalize readD d (1 + a) = s at *
  generalize readE d (1 + a) = e at *
  have ha : IntKind.i64.wrap (1 + a) = 1 + a := IntWalk.i64_in _ (by omega)
  replace hR := hid hR; replace hd := hid hd
  go_enter Try.func80, Try.ntmps80
  go_wp2
  (refine wp_region_below (by kernel_rfl) (by kernel_rfl) ?_); (repeat (go_big_quiet_step ((first | (go_at_call 21; exact BW.call (hR.out _ (hd.out.below (BW.below _)))))) )); refine wpQuiet_nil ?_; intro wq hw'; obtain ⟨⟨_, hb1⟩, rfl⟩ := hw'
  have k' := k.step hb1
  have c2' := k'.cell 2; have c3' := k'.cell 3
  have f2 := k'.free 2; have f3 := k'.free 3
  have lt' := k'.lt
  simp only [List.getElem?_toArray, List.getElem?_cons_zero, List.getElem?_cons_succ] at c2' c3'
  have g := gSet (gSet (gB hb1 (some br)) 2 (.int .i64 ((a + 1) % 24))) 3 (.int .i64 (lf - 1))
  have k2 := (k'.set 2 (.int .i64 ((a + 1) % 24))).set 3 (.int .i64 (lf - 1))
  replace g := hid g; replace k2 := hid k2
  clear c0 c1 c2 c3 k
  go_wp2
  go_ret2
  exact ⟨rfl, k2.out, g.out⟩
end Go.Proofs.Ytjhmfljlclajnab

namespace Wb
open Go Go.RowKit
def dropC (l : List Cpy) (b : Int) : List Cpy := l.filter (fun c => c.block != b)
theorem dropC_step {l : List Cpy} {b : Int} {k : Nat} (hk : k < l.length) : dropC (l.take (k + 1)) b = if l[k].block = b then dropC (l.take k) b else dropC (l.take k) b ++ [l[k]] := by
  unfold dropC
  rw [List.take_succ_eq_append_getElem hk, List.filter_append]
  by_cases h : l[k].block = b
  · rw [if_pos h]; simp [h]
  · rw [if_neg h]; simp [h]
theorem dropC_len (l : List Cpy) (b : Int) : (dropC l b).length ≤ l.length := List.length_filter_le _ _
def withK (l : List Cpy) (b : Int) (s : ByteArray) (k : Nat) : Option Cpy := if (k : Int) = b then some ⟨b, s⟩ else (getC l k).map fun t => ⟨k, t⟩
def withN (l : List Cpy) (b : Int) (s : ByteArray) (n : Nat) : List Cpy := (List.range n).filterMap (withK l b s)
def withL (l : List Cpy) (b : Int) (s : ByteArray) : List Cpy := withN l b s 12
theorem withN_step (l : List Cpy) (b : Int) (s : ByteArray) (k : Nat) : withN l b s (k + 1) = withN l b s k ++ (withK l b s k).toList := by
  unfold withN
  rw [List.range_succ, List.filterMap_append]
  cases h : withK l b s k <;> simp [h]
theorem withN_len (l : List Cpy) (b : Int) (s : ByteArray) (k : Nat) : (withN l b s k).length ≤ k := by
  unfold withN
  exact Nat.le_trans (List.length_filterMap_le _ _) (by simp)
end Wb
namespace Go.Proofs.Ytjhmfljlclajnab
open Go.RowKit Wb
set_option linter.unusedVariables false
set_option linter.unusedSimpArgs false
set_option maxRecDepth 100000
set_option maxHeartbeats 2000000
theorem elemCpy : Elem Try.prog 57 93 2 24 := Elem.mk' (z := .agg #[.int .i64 0, .string ⟨#[]⟩]) Try.underlying57 (by kernel_rfl) rfl

theorem ref_isBlock (n : Int) (w : World) : Calls Try.prog 61 #[.int .i64 n] w fun e w' => e = .returned (.bool (isBlk n)) ∧ w = w' := by
  by_cases h0 : 0 ≤ n
  · by_cases h1 : n < 12
    · have hv : isBlk n = true := decide_eq_true ⟨h0, h1⟩
      rw [hv]
      clear hv
      go_enter Try.func61, Try.ntmps61
      go_wp2
      go_ret
      exact ⟨rfl, rfl⟩
    · have hv : isBlk n = false := decide_eq_false (fun h => h1 h.2)
      rw [hv]
      clear hv
      go_enter Try.func61, Try.ntmps61
      go_wp2
      go_ret
      exact ⟨rfl, rfl⟩
  · have hv : isBlk n = false := decide_eq_false (fun h => h0 h.1)
    rw [hv]
    clear hv
    go_enter Try.func61, Try.ntmps61
    go_wp2
    go_ret
    exact ⟨rfl, rfl⟩

theorem ref_among (l : List Int) (b : Int) (v : Value) (w : World) (h : RL intC w v l) (hl : l.length ≤ 17592186044160) :
    Calls Try.prog 62 #[v, .int .i64 b] w fun e w' => e = .returned (.bool (inI l b)) ∧ w = w' := by
  obtain ⟨a, cap, rfl, _⟩ := h.form
  have hst := fun k (hk : k < l.length) => inI_step (l := l) (b := b) hk
  have hft := fun k (hk : ¬ k < l.length) => inI_full (l := l) (b := b) hk
  have hht := fun k (hk : k < l.length) (hb : l[k] = b) => inI_hit hk hb
  replace h := hid h; replace hst := hid hst; replace hft := hid hft; replace hht := hid hht
  go_enter Try.func62, Try.ntmps62
  go_wp2
  go_loop [9] (fun i => ∃ k : Nat, k ≤ l.length ∧ i = .int .i64 k ∧ Hid (inI (l.take k) b = false)) (fun i => l.length - (intOf i).toNat)
  case atStart => exact ⟨0, Nat.zero_le _, rfl, hid (by simp [inI])⟩
  case round =>
    obtain ⟨k, hk, rfl, hno⟩ := hrel
    by_cases hlt : k < l.length
    · obtain ⟨b1, o1, rfl, c0⟩ := RL.at1 (fun x => .int .i64 x) (fun _ => rfl) h.out hlt
      by_cases hb : l[k] = b
      · have hv := hid (hht.out k hlt hb)
        have e1 : (l[k] == b) = true := beq_iff_eq.2 hb
        clear hb
        generalize l[k] = x at *
        go_wp2
        go_ret
        exact ⟨ret_b hv.out.symm, rfl⟩
      · have hs := hst.out k hlt
        have e1 : (l[k] == b) = false := beq_eq_false_iff_ne.2 hb
        rw [e1, hno.out] at hs
        replace hs := hid hs
        clear hb
        generalize l[k] = x at *
        go_wp2
        go_round
        case rel => exact ⟨k + 1, by omega, by go_num, hs⟩
        case measure => simp [intOf]; omega
    · have hv := hno.out
      rw [hft.out k hlt] at hv
      replace hv := hid hv
      go_wp2
      go_ret
      exact ⟨ret_b hv.out.symm, rfl⟩

theorem ref_TextOf (l : List Cpy) (b : Int) (v : Value) (w : World) (h : RL cpyC w v l) (hl : l.length ≤ 5864062014805) :
    Calls Try.prog 85 #[v, .int .i64 b] w fun e w' => e = .returned (.tuple #[.string ((getC l b).getD ⟨#[]⟩), .bool (getC l b).isSome]) ∧ Below w.heap.size w w' := by
  obtain ⟨a, cap, rfl, _⟩ := h.form
  have hst := fun k (hk : k < l.length) => hasB_step (l := l) (b := b) hk
  have hft := fun k (hk : ¬ k < l.length) => hasB_full (l := l) (b := b) hk
  have hht := fun k (hk : k < l.length) (hn : hasB (l.take k) b = false) (hb : l[k].block = b) => getC_step hk hn hb
  have hno' := fun (hn : hasB l b = false) => getC_none hn
  generalize getC l b = g at *
  replace h := hid h; replace hst := hid hst; replace hft := hid hft; replace hht := hid hht; replace hno' := hid hno'
  go_enter Try.func85, Try.ntmps85
  go_wp2
  go_loopw [7, 10] (fun _ i wr => ∃ k : Nat, k ≤ l.length ∧ i = .int .i64 k ∧ Hid (hasB (l.take k) b = false) ∧ Below w.heap.size w wr) (fun _ i _ => l.length - (intOf i).toNat)
  case atStart => exact ⟨0, Nat.zero_le _, rfl, hid (by simp [hasB]), b0 w⟩
  case round =>
    obtain ⟨k, hk, rfl, hno, nx⟩ := hrel
    by_cases hlt : k < l.length
    · obtain ⟨b1, o1, rfl, c0, c1⟩ := RL.at2 (fun x => .int .i64 x.block) (fun x => .string x.text) (fun _ => rfl) (h.out.below nx) hlt
      by_cases hb : l[k].block = b
      · have hv := hht.out k hlt hno.out hb
        have e1 : (l[k].block == b) = true := beq_iff_eq.2 hb
        clear hb hno'
        generalize l[k] = x at *
        subst hv
        go_wp2
        go_ret2
        exact ⟨by simp, bal nx _⟩
      · have hs := hst.out k hlt
        have e1 : (l[k].block == b) = false := beq_eq_false_iff_ne.2 hb
        rw [e1, hno.out] at hs
        replace hs := hid hs
        clear hb
        generalize l[k] = x at *
        go_wp2
        go_roundw
        case rel => exact ⟨k + 1, by omega, by go_num, hs, bal nx _⟩
        case measure => simp [intOf]; omega
    · have hv := hno.out
      rw [hft.out k hlt] at hv
      have hg := hno'.out hv
      subst hg
      clear hv hno'
      go_wp2
      go_ret2
      exact ⟨rfl, nx⟩

theorem ref_rest (l : List Cpy) (b : Int) (v : Value) (w : World) (h : RL cpyC w v l) (hl : l.length ≤ 1099511627776) :
    Calls Try.prog 60 #[v, .int .i64 b] w fun e w' => ∃ v', e = .returned v' ∧ Own cpyC w.heap.size 93 2 w' v' (dropC l b) ∧ Below w.heap.size w w' := by
  obtain ⟨a, cap, rfl, _⟩ := h.form
  have hst := fun k (hk : k < l.length) => dropC_step (l := l) (b := b) hk
  have hln := fun k => dropC_len (l.take k) b
  replace h := hid h; replace hst := hid hst; replace hln := hid hln
  go_enter Try.func60, Try.ntmps60
  go_wp2
  go_loopw [5, 7, 10] (fun o _ i wr => ∃ k : Nat, k ≤ l.length ∧ i = .int .i64 k ∧ Own cpyC w.heap.size 93 2 wr o (dropC (l.take k) b) ∧ Below w.heap.size w wr) (fun _ _ i _ => l.length - (intOf i).toNat)
  case atStart => exact ⟨0, Nat.zero_le _, rfl, by simpa [dropC] using Own.nil _ _ _ _ _, b0 w⟩
  case round =>
    obtain ⟨k, hk, rfl, hown, nx⟩ := hrel
    by_cases hlt : k < l.length
    · obtain ⟨b1, o1, rfl, c0, c1⟩ := RL.at2 (fun x => .int .i64 x.block) (fun x => .string x.text) (fun _ => rfl) (h.out.below nx) hlt
      have hs := hst.out k hlt
      have hl2 := hln.out k
      rw [List.length_take] at hl2
      by_cases hb : l[k].block = b
      · rw [if_pos hb] at hs
        have e1 : (l[k].block != b) = false := by rw [bne_eq_false_iff_eq]; exact hb
        replace hs := hid hs
        clear hb
        generalize l[k] = x at *
        go_wp2
        go_roundw
        case rel => exact ⟨k + 1, by omega, by go_num, by rw [hs.out]; exact hown.alloc _, bal nx _⟩
        case measure => simp [intOf]; omega
      · rw [if_neg hb] at hs
        have e1 : (l[k].block != b) = true := bne_iff_ne.2 hb
        replace hs := hid hs
        clear hb
        generalize l[k] = x at *
        generalize dropC (l.take k) b = ls at *
        have hsz := nx.size
        go_wp2_with (at_builtin; go_loud (refine wpList_push rfl _ _ _ rfl w.heap.size _ 2 24 cpyC_flat elemCpy (hown.alloc _) rfl x rfl rfl ?c1 ?c2 ?c3 ?c4))
        all_goals try (case c1 => omega)
        all_goals try (case c2 => unfold maxLen; omega)
        all_goals try (case c3 => simp; omega)
        case c4 =>
          intro v7 w7 hown7 hbel7 _
          rw [← hs.out] at hown7
          go_wp2
          go_roundw
          case rel => exact ⟨k + 1, by omega, by go_num, hown7, (bal nx _).trans hbel7⟩
          case measure => simp [intOf]; omega
    · rw [List.take_of_length_le (by omega)] at hown
      go_wp2
      go_ret
      exact ⟨_, rfl, hown, nx⟩

theorem ref_with (l : List Cpy) (b : Int) (s : ByteArray) (v : Value) (w : World) (h : RL cpyC w v l) (hl : l.length ≤ 5864062014805) :
    Calls Try.prog 63 #[v, .int .i64 b, .string s] w fun e w' => ∃ v', e = .returned v' ∧ Own cpyC w.heap.size 93 2 w' v' (withL l b s) ∧ Below w.heap.size w w' := by
  obtain ⟨a, cap, rfl, _⟩ := h.form
  have hT := fun (k : Nat) w (hh : RL cpyC w (.slice a l.length cap) l) => ref_TextOf l k _ w hh hl
  have hst := fun k => withN_step l b s k
  have hln := fun k => withN_len l b s k
  have hwk : ∀ k : Nat, withK l b s k = if (k : Int) = b then some ⟨b, s⟩ else (getC l k).map fun t => ⟨k, t⟩ := fun _ => rfl
  have hwl : withL l b s = withN l b s 12 := rfl
  have hn0 : withN l b s 0 = [] := rfl
  rw [hwl]
  replace h := hid h; replace hT := hid hT; replace hst := hid hst; replace hln := hid hln; replace hwk := hid hwk; replace hn0 := hid hn0
  clear hwl hl
  generalize hW : withN l b s = W at *
  clear hW
  go_enter Try.func63, Try.ntmps63
  go_wp2
  go_loopw [7, 11] (fun o i wr => ∃ k : Nat, k ≤ 12 ∧ i = .int .i64 k ∧ Own cpyC w.heap.size 93 2 wr o (W k) ∧ Below w.heap.size w wr) (fun _ i _ => 12 - (intOf i).toNat)
  case atStart => exact ⟨0, by decide, rfl, by rw [hn0.out]; exact Own.nil _ _ _ _ _, b0 w⟩
  case round =>
    obtain ⟨k, hk, rfl, hown, nx⟩ := hrel
    by_cases hlt : k < 12
    · have hs := hst.out k
      have hw2 := hwk.out k
      have hl2 := hln.out k
      have hTk := hT.out k
      generalize getC l k = g at *
      generalize W k = Wk at *
      by_cases hb : (k : Int) = b
      · rw [hw2, if_pos hb, Option.toList_some] at hs
        have e1 : ((k : Int) == b) = true := beq_iff_eq.2 hb
        replace hs := hid hs; replace hTk := hid hTk
        clear hb hw2
        go_wp2_with (first
          | (go_at_call 85; go_loud ((with_reducible refine (hTk.out _ (h.out.below nx)).mono ?_); rintro e w1 ⟨rfl, hb1⟩; have nx1 := bgo nx hb1; have hown := hown.below hb1; have hsz := nx1.size))
          | (at_builtin; go_loud (refine wpList_push rfl _ _ _ rfl w.heap.size _ 2 24 cpyC_flat elemCpy hown rfl ⟨b, s⟩ rfl rfl (by omega) (by unfold maxLen; omega) nx1.size ?_); intro v7 w7 hown7 hbel7 _))
        rw [← hs.out] at hown7
        go_wp2
        go_roundw
        case rel => exact ⟨k + 1, by omega, by go_num, hown7, nx1.trans hbel7⟩
        case measure => simp [intOf]; omega
      · rw [hw2, if_neg hb] at hs
        have e1 : ((k : Int) == b) = false := beq_eq_false_iff_ne.2 hb
        clear hb hw2
        cases g with
        | none =>
          simp only [Option.map_none, Option.toList_none, List.append_nil] at hs
          simp only [Option.getD_none, Option.isSome_none] at hTk
          replace hs := hid hs; replace hTk := hid hTk
          go_wp2_with (go_at_call 85; go_loud ((with_reducible refine (hTk.out _ (h.out.below nx)).mono ?_); rintro e w1 ⟨rfl, hb1⟩; have nx1 := bgo nx hb1; have hown := hown.below hb1; have hsz := nx1.size))
          go_roundw
          case rel => exact ⟨k + 1, by omega, by go_num, by rw [hs.out]; exact hown, nx1⟩
          case measure => simp [intOf]; omega
        | some t =>
          simp only [Option.map_some, Option.toList_some] at hs
          simp only [Option.getD_some, Option.isSome_some] at hTk
          replace hs := hid hs; replace hTk := hid hTk
          go_wp2_with (first
            | (go_at_call 85; go_loud ((with_reducible refine (hTk.out _ (h.out.below nx)).mono ?_); rintro e w1 ⟨rfl, hb1⟩; have nx1 := bgo nx hb1; have hown := hown.below hb1; have hsz := nx1.size))
            | (at_builtin; go_loud (refine wpList_push rfl _ _ _ rfl w.heap.size _ 2 24 cpyC_flat elemCpy hown rfl ⟨(k : Int), t⟩ rfl rfl (by omega) (by unfold maxLen; omega) nx1.size ?_); intro v7 w7 hown7 hbel7 _))
          rw [← hs.out] at hown7
          go_wp2
          go_roundw
          case rel => exact ⟨k + 1, by omega, by go_num, hown7, nx1.trans hbel7⟩
          case measure => simp [intOf]; omega
    · obtain rfl : k = 12 := by omega
      go_wp2
      go_ret
      exact ⟨_, rfl, hown, nx⟩
end Go.Proofs.Ytjhmfljlclajnab

namespace Wb
open Go Go.RowKit
theorem Own.setCells {α : Type} {f : α → List Value} {base : Nat} {e : TypeId} {c : Nat} {v : Value} {l : List α} : ∀ (ps : List (Addr × Value)) (w : World), Own f base e c w v l → (∀ p ∈ ps, p.1.block < base) → Own f base e c (ps.foldl (fun w p => w.setCell p.1 p.2) w) v l
  | [], _, h, _ => h
  | p :: ps, w, h, hp => Own.setCells ps _ (h.setCell (hp p (by simp)) p.2) (fun q hq => hp q (by simp [hq]))
theorem Below.setCells {B : Nat} {w : World} : ∀ (ps : List (Addr × Value)) (w' : World), Below B w w' → (∀ p ∈ ps, B ≤ p.1.block) → Below B w (ps.foldl (fun w p => w.setCell p.1 p.2) w')
  | [], _, h, _ => h
  | p :: ps, w', h, hp => Below.setCells ps _ (h.setCell (hp p (by simp)) p.2) (fun q hq => hp q (by simp [hq]))
end Wb
namespace Go.Proofs.Ytjhmfljlclajnab
open Go.RowKit Wb
set_option linter.unusedVariables false
set_option linter.unusedSimpArgs false
set_option maxRecDepth 100000
set_option maxHeartbeats 4000000
theorem elemIntT : Elem Try.prog 36 3 1 8 := Elem.mk' (z := .int .i64 0) Try.underlying36 (by kernel_rfl) rfl

theorem ref_CopyTxn (t : Txn) (v : Value) (w : World) (h : RTxn w v t) :
    Calls Try.prog 32 #[v] w fun e w' => ∃ v', e = .returned v' ∧ OTxn w.heap.size 93 3 w' v' t ∧ Below w.heap.size w w' := by
  obtain ⟨vm, vd, vr, rfl, hm, hd, hr, n1, n2, n3⟩ := h
  obtain ⟨am, cm, rfl, _⟩ := hm.form
  obtain ⟨ad, cd, rfl, _⟩ := hd.form
  obtain ⟨ar, cr, rfl, _⟩ := hr.form
  obtain ⟨seq, mt, dt, rev, ⟨on0, l0⟩, ⟨on1, l1⟩, ⟨on2, l2⟩⟩ := t
  unfold txnV OTxn
  dsimp only at *
  replace hm := hid hm; replace hd := hid hd; replace hr := hid hr
  go_enter Try.func32, Try.ntmps32
  go_wp2
  go_region_law (first
    | (refine step_app rfl _ _ 57 rfl _ _ 2 24 cpyC_flat elemCpy (Own.nil _ _ _ _ _) rfl mt (hm.out.below (bal (bal (b0 w) _) _).drew) rfl (by simp; omega) (by simp; unfold maxLen; omega) (Nat.le_refl _) ?_; intro v1 w1 hown1 hb1 _; obtain ⟨a1, cap1, rfl⟩ := hown1.form; have k0 : Blk w1 w.heap.size #[.int .i64 seq, .slice am mt.length cm, .slice ad dt.length cd, .slice ar rev.length cr, .bool on0, .int .i64 l0, .bool on1, .int .i64 l1, .bool on2, .int .i64 l2] 64 := (((Blk.new w _ _).alloc _).drew).step hb1; have k1 : Blk w1 (w.heap.size + 1) #[.int .i64 0, .slice none 0 0, .slice none 0 0, .slice none 0 0, .bool false, .int .i64 0, .bool false, .int .i64 0, .bool false, .int .i64 0] 64 := ((Blk.newAt (w := w.alloc _) (by simp)).drew).step hb1; have nx := bgo (bal (bal (b0 w) _) _).drew hb1; have c1 := k0.cell 1; have c2 := k0.cell 2; have c3 := k0.cell 3; simp only [List.getElem?_toArray, List.getElem?_cons_zero, List.getElem?_cons_succ] at c1 c2 c3; simp only [List.nil_append] at hown1)
    | (refine step_app rfl _ _ 57 rfl _ _ 2 24 cpyC_flat elemCpy (Own.nil _ _ _ _ _) rfl dt (hd.out.below nx) rfl (by simp; omega) (by simp; unfold maxLen; omega) (Nat.le_refl _) ?_; intro v2 w2 hown2 hb2 _; obtain ⟨a2, cap2, rfl⟩ := hown2.form; replace k0 := k0.step hb2; replace k1 := k1.step hb2; have nx := bgo nx hb2; replace hown1 := hown1.below hb2; clear c1 c2 c3; have c1 := k0.cell 1; have c2 := k0.cell 2; have c3 := k0.cell 3; simp only [List.getElem?_toArray, List.getElem?_cons_zero, List.getElem?_cons_succ] at c1 c2 c3; simp only [List.nil_append] at hown2)
    | (refine step_app rfl _ _ 36 rfl _ _ 1 8 intC_flat elemIntT (Own.nil _ _ _ _ _) rfl rev (hr.out.below nx) rfl (by simp; omega) (by simp; unfold maxLen; omega) (Nat.le_refl _) ?_; intro v3 w3 hown3 hb3 _; obtain ⟨a3, cap3, rfl⟩ := hown3.form; replace k0 := k0.step hb3; replace k1 := k1.step hb3; have nx := bgo nx hb3; replace hown1 := hown1.below hb3; replace hown2 := hown2.below hb3; clear c1 c2 c3; have c1 := k0.cell 1; have c2 := k0.cell 2; have c3 := k0.cell 3; have f1 := k0.free 1; have f2 := k0.free 2; have f3 := k0.free 3; simp only [List.getElem?_toArray, List.getElem?_cons_zero, List.getElem?_cons_succ] at c1 c2 c3; simp only [List.nil_append] at hown3))
  all_goals
    have k0' := ((k0.set 1 (.slice a1 mt.length cap1)).set 2 (.slice a2 dt.length cap2)).set 3 (.slice a3 rev.length cap3)
    have k1' := ((k1.set_other ⟨w.heap.size, 1, none⟩ (.slice a1 mt.length cap1) (by simp)).set_other ⟨w.heap.size, 2, none⟩ (.slice a2 dt.length cap2) (by simp)).set_other ⟨w.heap.size, 3, none⟩ (.slice a3 rev.length cap3) (by simp)
    have nx' := ((nx.setCell (p := ⟨w.heap.size, 1, none⟩) (by simp) (.slice a1 mt.length cap1)).setCell (p := ⟨w.heap.size, 2, none⟩) (by simp) (.slice a2 dt.length cap2)).setCell (p := ⟨w.heap.size, 3, none⟩) (by simp) (.slice a3 rev.length cap3)
    have o1 := ((hown1.mono (base' := w.heap.size + 2) (by simp)).setCell (p := ⟨w.heap.size, 1, none⟩) (by simp) (.slice a1 mt.length cap1)).setCell (p := ⟨w.heap.size, 2, none⟩) (by simp) (.slice a2 dt.length cap2) |>.setCell (p := ⟨w.heap.size, 3, none⟩) (by simp) (.slice a3 rev.length cap3)
    have hz1 : w.heap.size + 2 ≤ w1.heap.size := by have := hb1.size; simpa using this
    have hz2 : w.heap.size + 2 ≤ w2.heap.size := Nat.le_trans hz1 hb2.size
    have o2 := ((hown2.mono (base' := w.heap.size + 2) hz1).setCell (p := ⟨w.heap.size, 1, none⟩) (by simp) (.slice a1 mt.length cap1)).setCell (p := ⟨w.heap.size, 2, none⟩) (by simp) (.slice a2 dt.length cap2) |>.setCell (p := ⟨w.heap.size, 3, none⟩) (by simp) (.slice a3 rev.length cap3)
    have o3 := ((hown3.mono (base' := w.heap.size + 2) hz2).setCell (p := ⟨w.heap.size, 1, none⟩) (by simp) (.slice a1 mt.length cap1)).setCell (p := ⟨w.heap.size, 2, none⟩) (by simp) (.slice a2 dt.length cap2) |>.setCell (p := ⟨w.heap.size, 3, none⟩) (by simp) (.slice a3 rev.length cap3)
    clear k0 k1 nx hown1 hown2 hown3 c1 c2 c3 f1 f2 f3 hb1 hb2 hb3
    generalize (((w3.setCell ⟨w.heap.size, 1, none⟩ (.slice a1 mt.length cap1)).setCell ⟨w.heap.size, 2, none⟩ (.slice a2 dt.length cap2)).setCell ⟨w.heap.size, 3, none⟩ (.slice a3 rev.length cap3)) = w4 at *
    replace k0' : Blk w4 w.heap.size #[.int .i64 seq, .slice a1 mt.length cap1, .slice a2 dt.length cap2, .slice a3 rev.length cap3, .bool on0, .int .i64 l0, .bool on1, .int .i64 l1, .bool on2, .int .i64 l2] 64 := k0'
    have c0 := k0'.cell 0; have c1 := k0'.cell 1; have c2 := k0'.cell 2; have c3 := k0'.cell 3; have c4 := k0'.cell 4; have c5 := k0'.cell 5; have c6 := k0'.cell 6; have c7 := k0'.cell 7; have c8 := k0'.cell 8; have c9 := k0'.cell 9
    have d0 := k1'.cell 0; have d1 := k1'.cell 1; have d2 := k1'.cell 2; have d3 := k1'.cell 3; have d4 := k1'.cell 4; have d5 := k1'.cell 5; have d6 := k1'.cell 6; have d7 := k1'.cell 7; have d8 := k1'.cell 8; have d9 := k1'.cell 9
    have z0 := k1'.free 0; have z1 := k1'.free 1; have z2 := k1'.free 2; have z3 := k1'.free 3; have z4 := k1'.free 4; have z5 := k1'.free 5; have z6 := k1'.free 6; have z7 := k1'.free 7; have z8 := k1'.free 8; have z9 := k1'.free 9
    simp only [List.getElem?_toArray, List.getElem?_cons_zero, List.getElem?_cons_succ] at c0 c1 c2 c3 c4 c5 c6 c7 c8 c9 d0 d1 d2 d3 d4 d5 d6 d7 d8 d9
    go_wp2
    have e1 := o1.setCells [(⟨w.heap.size + 1, 0, none⟩, .int .i64 seq), (⟨w.heap.size + 1, 1, none⟩, .slice a1 mt.length cap1), (⟨w.heap.size + 1, 2, none⟩, .slice a2 dt.length cap2), (⟨w.heap.size + 1, 3, none⟩, .slice a3 rev.length cap3), (⟨w.heap.size + 1, 4, none⟩, .bool on0), (⟨w.heap.size + 1, 5, none⟩, .int .i64 l0), (⟨w.heap.size + 1, 6, none⟩, .bool on1), (⟨w.heap.size + 1, 7, none⟩, .int .i64 l1), (⟨w.heap.size + 1, 8, none⟩, .bool on2), (⟨w.heap.size + 1, 9, none⟩, .int .i64 l2)] _ (by simp)
    have e2 := o2.setCells [(⟨w.heap.size + 1, 0, none⟩, .int .i64 seq), (⟨w.heap.size + 1, 1, none⟩, .slice a1 mt.length cap1), (⟨w.heap.size + 1, 2, none⟩, .slice a2 dt.length cap2), (⟨w.heap.size + 1, 3, none⟩, .slice a3 rev.length cap3), (⟨w.heap.size + 1, 4, none⟩, .bool on0), (⟨w.heap.size + 1, 5, none⟩, .int .i64 l0), (⟨w.heap.size + 1, 6, none⟩, .bool on1), (⟨w.heap.size + 1, 7, none⟩, .int .i64 l1), (⟨w.heap.size + 1, 8, none⟩, .bool on2), (⟨w.heap.size + 1, 9, none⟩, .int .i64 l2)] _ (by simp)
    have e3 := o3.setCells [(⟨w.heap.size + 1, 0, none⟩, .int .i64 seq), (⟨w.heap.size + 1, 1, none⟩, .slice a1 mt.length cap1), (⟨w.heap.size + 1, 2, none⟩, .slice a2 dt.length cap2), (⟨w.heap.size + 1, 3, none⟩, .slice a3 rev.length cap3), (⟨w.heap.size + 1, 4, none⟩, .bool on0), (⟨w.heap.size + 1, 5, none⟩, .int .i64 l0), (⟨w.heap.size + 1, 6, none⟩, .bool on1), (⟨w.heap.size + 1, 7, none⟩, .int .i64 l1), (⟨w.heap.size + 1, 8, none⟩, .bool on2), (⟨w.heap.size + 1, 9, none⟩, .int .i64 l2)] _ (by simp)
    have e4 := Wb.Below.setCells [(⟨w.heap.size + 1, 0, none⟩, .int .i64 seq), (⟨w.heap.size + 1, 1, none⟩, .slice a1 mt.length cap1), (⟨w.heap.size + 1, 2, none⟩, .slice a2 dt.length cap2), (⟨w.heap.size + 1, 3, none⟩, .slice a3 rev.length cap3), (⟨w.heap.size + 1, 4, none⟩, .bool on0), (⟨w.heap.size + 1, 5, none⟩, .int .i64 l0), (⟨w.heap.size + 1, 6, none⟩, .bool on1), (⟨w.heap.size + 1, 7, none⟩, .int .i64 l1), (⟨w.heap.size + 1, 8, none⟩, .bool on2), (⟨w.heap.size + 1, 9, none⟩, .int .i64 l2)] _ nx' (by simp)
    refine bodyPost_ret (v := .agg #[.int .i64 seq, .slice a1 mt.length cap1, .slice a2 dt.length cap2, .slice a3 rev.length cap3, .bool on0, .int .i64 l0, .bool on1, .int .i64 l1, .bool on2, .int .i64 l2]) (by simp [results, Try.results32, go_sem, d0, d1, d2, d3, d4, d5, d6, d7, d8, d9]) rfl ⟨_, rfl, ⟨_, _, _, rfl, e1.mono (by omega), e2.mono (by omega), e3.mono (by omega), n1, n2, n3⟩, e4⟩
end Go.Proofs.Ytjhmfljlclajnab

namespace Wb
open Go Go.RowKit
/-- What is left of the log of a disk. -/
def sfx (d : Dsk) (A : Int) (r : List ByteArray) : Prop := r = (logL d A).drop (24 - r.length) ∧ r.length ≤ 24
theorem sfx_all (d : Dsk) (A : Int) : sfx d A (logL d A) := by
  unfold sfx
  rw [logL_len]
  exact ⟨rfl, Nat.le_refl _⟩
theorem sfx_cons {d : Dsk} {A : Int} {s : ByteArray} {r : List ByteArray} (h : sfx d A (s :: r)) : sfx d A r ∧ readD d (1 + (A + (24 - ((r.length + 1 : Nat) : Int))) % 24) = s ∧ r.length < 24 := by
  obtain ⟨h1, h2⟩ := h
  simp only [List.length_cons] at h1 h2
  have hlt : 24 - (r.length + 1) < (logL d A).length := by rw [logL_len]; omega
  rw [List.drop_eq_getElem_cons hlt] at h1
  simp only [List.cons.injEq] at h1
  refine ⟨⟨?_, by omega⟩, ?_, by omega⟩
  · have := h1.2
    rw [show 24 - (r.length + 1) + 1 = 24 - r.length by omega] at this
    exact this
  · rw [h1.1]
    simp only [logL, List.getElem_map, List.getElem_range]
    congr 3
    omega
/-- The reader's cells, n blocks ahead of the end. -/
def rdrC (vs vw : Value) (A : Int) (n : Nat) : Array Value := #[vs, vw, .int .i64 ((A + (24 - (n : Int))) % 24), .int .i64 (n : Int)]
theorem Own.grownBlk {α : Type} {f : α → List Value} {base : Nat} {e : TypeId} {c : Nat} {w w' : World} {v : Value} {l : List α} (h : Own f base e c w v l) {b : Nat} {cs : Array Value} {t : TypeId} (hb : Blk w b cs t) (hne : e ≠ t) (hg : w.grownBy w' (some b)) : Own f base e c w' v l := by
  refine h.grown hg ?_
  cases hv : v.ownBlock with
  | none => exact .inl rfl
  | some g =>
    refine .inr fun hh => ?_
    obtain ⟨c1, h1⟩ := h.cellsOf hv
    cases hh
    unfold Blk at hb
    rw [h1] at hb
    simp only [Option.some.injEq, Obj.cells.injEq] at hb
    exact hne hb.2.1
/-- A mark that is read has few tags and blocks. -/
theorem dec_bds {s : ByteArray} (h : decE s = 0) : (decM s).tags.length ≤ 10 ∧ (decM s).blocks.length ≤ 20 ∧ 0 ≤ (decM s).at_ ∧ (decM s).at_ < 24 ∧ 1 ≤ (decM s).seq ∧ (decM s).seq ≤ 2147483647 := by
  have hd : decOk s := by
    by_cases hd : decOk s
    · exact hd
    · rw [(dec_no hd).2] at h; cases h
  obtain ⟨e1, _, e2, _⟩ := dec_yes hd
  rw [e1]
  generalize rawM s = m at *
  have k1 : ¬ badKind m := fun hh => by rw [markE_kind hh] at e2; cases e2
  have k2 : ¬ badNum m := fun hh => by rw [markE_num k1 hh] at e2; cases e2
  have k3 : ¬ badForm m := fun hh => by rw [markE_form k1 k2 hh] at e2; cases e2
  have k4 : ¬ badLen m := fun hh => by rw [markE_len k1 k2 k3 hh] at e2; cases e2
  unfold badNum at k2
  unfold badLen at k4
  omega
end Wb
namespace Go.Proofs.Ytjhmfljlclajnab
open Go.RowKit Wb
set_option linter.unusedVariables false
set_option linter.unusedSimpArgs false
set_option maxRecDepth 100000
set_option maxHeartbeats 8000000

theorem next_nil (br : Nat) (vs vw : Value) (A : Int) (w : World) (k : Blk w br (rdrC vs vw A 0) 87) :
    Calls Try.prog 80 #[.pointer (some ⟨br, 0, none⟩)] w fun e w' => e = .returned (.tuple #[.string ⟨#[]⟩, .bool false]) ∧ w = w' := scan_next0 br vs vw _ w k
theorem next_cons (d : Dsk) (br : Nat) (vs vw : Value) (A : Int) (s : ByteArray) (r : List ByteArray) (w : World) (hd : RDisk w (.agg #[vs, vw]) d) (k : Blk w br (rdrC vs vw A (r.length + 1)) 87) (hs : sfx d A (s :: r)) :
    Calls Try.prog 80 #[.pointer (some ⟨br, 0, none⟩)] w fun e w' => e = .returned (.tuple #[.string s, .bool true]) ∧ Blk w' br (rdrC vs vw A r.length) 87 ∧ w.grownBy w' (some br) := by
  obtain ⟨h1, h2, h3⟩ := sfx_cons hs
  have := scan_next1 d br vs vw ((A + (24 - ((r.length + 1 : Nat) : Int))) % 24) ((r.length + 1 : Nat) : Int) w hd k (Int.emod_nonneg _ (by decide)) (Int.emod_lt_of_pos _ (by decide)) (by omega) (by omega)
  rw [h2] at this
  have e1 : ((A + (24 - ((r.length + 1 : Nat) : Int))) % 24 + 1) % 24 = (A + (24 - (r.length : Int))) % 24 := by omega
  have e2 : ((r.length + 1 : Nat) : Int) - 1 = (r.length : Int) := by omega
  rw [e1, e2] at this
  exact this
end Go.Proofs.Ytjhmfljlclajnab

namespace Wb
open Go Go.RowKit
theorem lastT_size (n : Int) : ∀ (ws : List Wr) (s : ByteArray), s.size ≤ 32 → ws.all wrOk = true → (lastT s n ws).size ≤ 32
  | [], s, h, _ => h
  | x :: ws, s, h, hw => by
    simp only [List.all_cons, Bool.and_eq_true] at hw
    have e : lastT s n (x :: ws) = lastT (if x.at_ = n then x.text else s) n ws := rfl
    rw [e]
    refine lastT_size n ws _ ?_ hw.2
    split
    · have := hw.1
      unfold wrOk at this
      simp only [Bool.and_eq_true] at this
      have : x.text.size = 32 := of_decide_eq_true this.2
      omega
    · exact h
theorem readD_size (d : Dsk) (n : Int) : (readD d n).size ≤ 32 := by
  unfold readD
  split
  · rename_i h
    obtain ⟨h1, h2, h3, h4⟩ := (goodD_iff d).1 h.1
    refine lastT_size n _ _ ?_ h4
    unfold safeAt
    rw [List.getD_eq_getElem?_getD]
    cases hk : d.safe[n.toNat]? with
    | none => exact Nat.zero_le _
    | some s =>
      have := List.all_eq_true.1 h3 s (List.mem_of_getElem? hk)
      have : s.size = 32 := of_decide_eq_true this
      simp only [Option.getD_some]
      omega
  · exact Nat.zero_le _
theorem logL_size (d : Dsk) (A : Int) : ∀ s ∈ logL d A, s.size ≤ 9223372036854775807 := by
  intro s hs
  unfold logL at hs
  obtain ⟨i, _, rfl⟩ := List.mem_map.1 hs
  have := readD_size d (1 + (A + (i : Int)) % 24)
  omega
theorem parseT_nil (seq : Int) (n : Nat) (t : Txn) : parseT seq n [] t = none := by cases n <;> rfl
theorem scanGo_fuel {n m : Nat} {r : List ByteArray} {x : Int} (hn : r.length < n) (hm : r.length < m) : scanGo n r x = scanGo m r x := by
  induction n generalizing m r x with
  | zero => omega
  | succ n ih =>
    cases m with
    | zero => omega
    | succ m =>
      unfold scanGo
      split
      · cases hp : parseT x 25 r (txn0 x) with
        | none => rfl
        | some p =>
          obtain ⟨t, r'⟩ := p
          have hl := parseT_len hp
          have e : scanGo n r' (x + 1) = scanGo m r' (x + 1) := ih (by omega) (by omega)
          show (t :: (scanGo n r' (x + 1)).1, (scanGo n r' (x + 1)).2) = (t :: (scanGo m r' (x + 1)).1, (scanGo m r' (x + 1)).2)
          rw [e]
      · rfl
theorem parseT_sfx {d : Dsk} {A : Int} {seq : Int} {n : Nat} {r r' : List ByteArray} {t t' : Txn} (h : parseT seq n r t = some (t', r')) (hs : sfx d A r) : sfx d A r' := by
  induction n generalizing r t with
  | zero => cases h
  | succ n ih =>
    cases r with
    | nil => cases h
    | cons s r =>
      obtain ⟨h1, _, _⟩ := sfx_cons hs
      have key : ∀ (gs : List Tag) (r1 r2 : List ByteArray) (m1 m2 : List Cpy), takeTags gs r1 m1 = some (m2, r2) → sfx d A r1 → sfx d A r2 := by
        intro gs
        induction gs with
        | nil =>
          intro r1 r2 m1 m2 hh h5
          simp only [takeTags, Option.some.injEq, Prod.mk.injEq] at hh
          rw [← hh.2]; exact h5
        | cons g gs ihg =>
          intro r1 r2 m1 m2 hh h5
          cases r1 with
          | nil => cases hh
          | cons s1 r1 => exact ihg _ _ _ _ hh (sfx_cons h5).1
      unfold parseT at h
      split at h
      · split at h
        · simp only [Option.some.injEq, Prod.mk.injEq] at h
          rw [← h.2]; exact h1
        · split at h
          · exact ih h h1
          · split at h
            · cases hm : takeTags (decM s).tags r t.mt with
              | none => rw [hm] at h; cases h
              | some p =>
                obtain ⟨mt, r2⟩ := p
                rw [hm] at h
                exact ih h (key _ _ _ _ _ hm h1)
            · cases h
      · cases h
theorem parseT_sub {seq : Int} {n : Nat} {r r' : List ByteArray} {t t' : Txn} (h : parseT seq n r t = some (t', r')) : ∀ s ∈ r', s ∈ r := by
  induction n generalizing r t with
  | zero => cases h
  | succ n ih =>
    cases r with
    | nil => cases h
    | cons s r =>
      have key : ∀ (gs : List Tag) (r1 r2 : List ByteArray) (m1 m2 : List Cpy), takeTags gs r1 m1 = some (m2, r2) → ∀ s ∈ r2, s ∈ r1 := by
        intro gs
        induction gs with
        | nil =>
          intro r1 r2 m1 m2 hh s hs
          simp only [takeTags, Option.some.injEq, Prod.mk.injEq] at hh
          rw [hh.2]; exact hs
        | cons g gs ihg =>
          intro r1 r2 m1 m2 hh s hs
          cases r1 with
          | nil => cases hh
          | cons s1 r1 => exact List.mem_cons_of_mem _ (ihg _ _ _ _ hh s hs)
      intro x hx
      unfold parseT at h
      split at h
      · split at h
        · simp only [Option.some.injEq, Prod.mk.injEq] at h
          rw [← h.2] at hx; exact List.mem_cons_of_mem _ hx
        · split at h
          · exact List.mem_cons_of_mem _ (ih h x hx)
          · split at h
            · cases hm : takeTags (decM s).tags r t.mt with
              | none => rw [hm] at h; cases h
              | some p =>
                obtain ⟨mt, r2⟩ := p
                rw [hm] at h
                exact List.mem_cons_of_mem _ (key _ _ _ _ _ hm x (ih h x hx))
            · cases h
      · cases h
theorem scanGo_step {r r' : List ByteArray} {x : Int} {t : Txn} (hx : x < 2147483647) (h : parseT x 25 r (txn0 x) = some (t, r')) :
    (scanGo (r.length + 1) r x).1 = t :: (scanGo (r'.length + 1) r' (x + 1)).1 ∧ (scanGo (r.length + 1) r x).2 = (scanGo (r'.length + 1) r' (x + 1)).2 := by
  have hl := parseT_len h
  have e : scanGo (r.length + 1) r x = (t :: (scanGo r.length r' (x + 1)).1, (scanGo r.length r' (x + 1)).2) := by
    show (if x < 2147483647 then _ else _) = _
    rw [if_pos hx, h]
  rw [e, scanGo_fuel (n := r.length) (m := r'.length + 1) (by omega) (by omega)]
  exact ⟨rfl, rfl⟩
theorem scanGo_stop {r : List ByteArray} {x : Int} (h : parseT x 25 r (txn0 x) = none) : scanGo (r.length + 1) r x = ([], x, r) := by
  show (if x < 2147483647 then _ else _) = _
  split
  · rw [h]
  · rfl
theorem scanGo_full {r : List ByteArray} {x : Int} (h : ¬ x < 2147483647) : scanGo (r.length + 1) r x = ([], x, r) := by
  show (if x < 2147483647 then _ else _) = _
  rw [if_neg h]
/-- What is found, owned. -/
def OFnd (base : Nat) (tt tc ti : TypeId) (w : World) (v : Value) (F : Fnd) : Prop := ∃ vt, v = .agg #[vt, .int .i64 F.next, .int .i64 F.at_] ∧ OTxns base tt tc ti w vt F.txns
theorem OTxn.grownBlk {base : Nat} {tc ti : TypeId} {w w' : World} {v : Value} {t : Txn} (h : OTxn base tc ti w v t) {b : Nat} {cs : Array Value} {e : TypeId} (hb : Blk w b cs e) (hc : tc ≠ e) (hi : ti ≠ e) (hg : w.grownBy w' (some b)) : OTxn base tc ti w' v t := by
  obtain ⟨vm, vd, vr, hv, h1, h2', h3, h4⟩ := h
  exact ⟨vm, vd, vr, hv, h1.grownBlk hb hc hg, h2'.grownBlk hb hc hg, h3.grownBlk hb hi hg, h4⟩
theorem OTxn.setCell {base : Nat} {tc ti : TypeId} {w : World} {v : Value} {t : Txn} (h : OTxn base tc ti w v t) {p : Addr} (hp : p.block < base) (u : Value) : OTxn base tc ti (w.setCell p u) v t := by
  obtain ⟨vm, vd, vr, hv, h1, h2', h3, h4⟩ := h
  exact ⟨vm, vd, vr, hv, h1.setCell hp u, h2'.setCell hp u, h3.setCell hp u, h4⟩
theorem OTxns.grownBlk {base : Nat} {tt tc ti : TypeId} {w w' : World} {v : Value} {l : List Txn} (h : OTxns base tt tc ti w v l) {b : Nat} {cs : Array Value} {e : TypeId} (hb : Blk w b cs e) (ht : tt ≠ e) (hc : tc ≠ e) (hi : ti ≠ e) (hg : w.grownBy w' (some b)) : OTxns base tt tc ti w' v l := by
  obtain ⟨xs, h1, h2, h3⟩ := h
  exact ⟨xs, h1.grownBlk hb ht hg, h2, fun x hx => (h3 x hx).grownBlk hb hc hi hg⟩
theorem OTxns.setCell {base : Nat} {tt tc ti : TypeId} {w : World} {v : Value} {l : List Txn} (h : OTxns base tt tc ti w v l) {p : Addr} (hp : p.block < base) (u : Value) : OTxns base tt tc ti (w.setCell p u) v l := by
  obtain ⟨xs, h1, h2, h3⟩ := h
  exact ⟨xs, h1.setCell hp u, h2, fun x hx => (h3 x hx).setCell hp u⟩
end Wb

namespace Wb
open Go Go.RowKit
theorem dec_kinds {s : ByteArray} (h : decE s = 0) : 1 ≤ (decM s).kind ∧ (decM s).kind ≤ 4 ∧ ((decM s).kind ≠ 2 → (decM s).tags = []) ∧ ((decM s).kind ≠ 3 → (decM s).blocks = []) := by
  have hd : decOk s := by
    by_cases hd : decOk s
    · exact hd
    · rw [(dec_no hd).2] at h; cases h
  obtain ⟨e1, _, e2, _⟩ := dec_yes hd
  rw [e1]
  generalize rawM s = m at *
  have k1 : ¬ badKind m := fun hh => by rw [markE_kind hh] at e2; cases e2
  have k2 : ¬ badNum m := fun hh => by rw [markE_num k1 hh] at e2; cases e2
  have k3 : ¬ badForm m := fun hh => by rw [markE_form k1 k2 hh] at e2; cases e2
  unfold badKind at k1
  unfold badForm at k3
  refine ⟨by omega, by omega, fun hh => List.length_eq_zero_iff.1 (by omega), fun hh => List.length_eq_zero_iff.1 (by omega)⟩
theorem parse_ref {seq : Int} {n : Nat} {s : ByteArray} {r : List ByteArray} {t : Txn} (h : decE s = 0) (hq : (decM s).seq = seq) (h1 : (decM s).kind ≠ 1) (h4 : (decM s).kind ≠ 4) :
    parseT seq (n + 1) (s :: r) t = match takeTags (decM s).tags r t.mt with
      | some (mt, r') => parseT seq n r' { t with rev := t.rev ++ (decM s).blocks, mt := mt }
      | none => none := by
  obtain ⟨k1, k2, k3, k5⟩ := dec_kinds h
  have e : parseT seq (n + 1) (s :: r) t = if decE s = 0 ∧ (decM s).seq = seq then
      if (decM s).kind = 4 then some (t, r)
      else if (decM s).kind = 3 then parseT seq n r { t with rev := t.rev ++ (decM s).blocks }
      else if (decM s).kind = 2 then
        match takeTags (decM s).tags r t.mt with
        | some (mt, r') => parseT seq n r' { t with mt := mt }
        | none => none
      else none
    else none := rfl
  rw [e, if_pos ⟨h, hq⟩, if_neg h4]
  by_cases h3 : (decM s).kind = 3
  · rw [if_pos h3, k3 (by omega)]
    rfl
  · have h2 : (decM s).kind = 2 := by omega
    rw [if_neg h3, if_pos h2, k5 h3]
    simp only [List.append_nil]
theorem parse_end {seq : Int} {n : Nat} {s : ByteArray} {r : List ByteArray} {t : Txn} (h : decE s = 0) (hq : (decM s).seq = seq) (h4 : (decM s).kind = 4) : parseT seq (n + 1) (s :: r) t = some (t, r) := by
  have e : parseT seq (n + 1) (s :: r) t = if decE s = 0 ∧ (decM s).seq = seq then
      if (decM s).kind = 4 then some (t, r)
      else if (decM s).kind = 3 then parseT seq n r { t with rev := t.rev ++ (decM s).blocks }
      else if (decM s).kind = 2 then
        match takeTags (decM s).tags r t.mt with
        | some (mt, r') => parseT seq n r' { t with mt := mt }
        | none => none
      else none
    else none := rfl
  rw [e, if_pos ⟨h, hq⟩, if_pos h4]
theorem parse_bad {seq : Int} {n : Nat} {s : ByteArray} {r : List ByteArray} {t : Txn} (h : ¬ (decE s = 0 ∧ (decM s).seq = seq ∧ (decM s).kind ≠ 1)) : parseT seq (n + 1) (s :: r) t = none := by
  have e : parseT seq (n + 1) (s :: r) t = if decE s = 0 ∧ (decM s).seq = seq then
      if (decM s).kind = 4 then some (t, r)
      else if (decM s).kind = 3 then parseT seq n r { t with rev := t.rev ++ (decM s).blocks }
      else if (decM s).kind = 2 then
        match takeTags (decM s).tags r t.mt with
        | some (mt, r') => parseT seq n r' { t with mt := mt }
        | none => none
      else none
    else none := rfl
  rw [e]
  by_cases hc : decE s = 0 ∧ (decM s).seq = seq
  · have h1 : (decM s).kind = 1 := by
      by_cases h1 : (decM s).kind = 1
      · exact h1
      · exact absurd ⟨hc.1, hc.2, h1⟩ h
    rw [if_pos hc, if_neg (by omega), if_neg (by omega), if_neg (by omega)]
  · rw [if_neg hc]
/-- What is found, as it is read. -/
def RFnd (w : World) (v : Value) (F : Fnd) : Prop := ∃ vt, v = .agg #[vt, .int .i64 F.next, .int .i64 F.at_] ∧ RTxns w vt F.txns
theorem RFnd.below {w w' : World} {v : Value} {F : Fnd} (h : RFnd w v F) (hb : Below w.heap.size w w') : RFnd w' v F := by
  obtain ⟨vt, hv, hr⟩ := h
  exact ⟨vt, hv, hr.below hb⟩
/-- A part of a slice from an element on. -/
theorem RL.drop {α : Type} {f : α → List Value} {c : Nat} (hf : ∀ x, (f x).length = c) {w : World} {b off n cap : Nat} {l : List α} (h : RL f w (.slice (some ⟨b, off, none⟩) n cap) l) {k : Nat} (hk : k ≤ l.length) :
    RL f w (.slice (some ⟨b, off + k * c, none⟩) (n - k) (cap - k)) (l.drop k) := by
  obtain ⟨a, cap', hv, h1, h2, h3⟩ := h
  simp only [Value.slice.injEq] at hv
  obtain ⟨rfl, rfl, rfl⟩ := hv
  refine ⟨some ⟨b, off + k * c, none⟩, cap - k, by rw [List.length_drop], by rw [List.length_drop]; omega, by omega, ?_⟩
  rcases h3 with h3 | ⟨b', off', ha, hc⟩
  · left
    cases hl : l.drop k with
    | nil => rfl
    | cons x r =>
      have : l.flatMap f = (l.take k).flatMap f ++ (l.drop k).flatMap f := by rw [← List.flatMap_append, List.take_append_drop]
      rw [h3, hl] at this
      simp only [List.nil_eq, List.append_eq_nil_iff] at this
      exact this.2
  · right
    simp only [Option.some.injEq, Addr.mk.injEq, and_true] at ha
    obtain ⟨rfl, rfl⟩ := ha
    refine ⟨b, off + k * c, rfl, fun j u hj => ?_⟩
    have : l.flatMap f = (l.take k).flatMap f ++ (l.drop k).flatMap f := by rw [← List.flatMap_append, List.take_append_drop]
    have hl := flat_len hf (l.take k)
    rw [List.length_take, Nat.min_eq_left hk] at hl
    have h5 := hc (k * c + j) u (by rw [this, List.getElem?_append_right (by omega), hl, Nat.add_sub_cancel_left]; exact hj)
    rw [← Nat.add_assoc] at h5
    exact h5
end Wb

namespace Wb
open Go Go.RowKit
def tellM : Mrk := ⟨1, 7, 2, [], []⟩
def tellD : Dsk := ⟨(List.replicate 37 (fit ⟨#[]⟩)).set 0 (markS tellM), []⟩
theorem tellM_ok : markE tellM = 0 := by decide
theorem markS_size {m : Mrk} (h : markE m = 0) : (markS m).size = 32 := by
  unfold markS
  rw [if_pos h]
  exact (raw_enc h).1.1
theorem zero_no : decE (fit ⟨#[]⟩) = 1 := by
  refine (dec_no fun h => ?_).2
  have := h.1.2
  revert this
  decide
theorem tellD_good : goodD tellD = true := by
  refine (goodD_iff _).2 ⟨by simp [tellD], by simp [tellD], ?_, by simp [tellD]⟩
  rw [List.all_eq_true]
  intro x hx
  unfold tellD at hx
  rcases List.mem_or_eq_of_mem_set hx with hx | rfl
  · rw [List.eq_of_mem_replicate hx]
    exact decide_eq_true (fit_size _)
  · exact decide_eq_true (markS_size tellM_ok)
theorem tell_0 : readD tellD 0 = markS tellM := by
  unfold readD
  rw [if_pos ⟨tellD_good, by decide⟩]
  rfl
theorem tell_e : readE tellD 0 = 0 := by
  unfold readE
  rw [if_pos ⟨tellD_good, by decide⟩]
theorem tell_log (k : Nat) (hk : k < 24) : readD tellD (1 + (k : Int)) = fit ⟨#[]⟩ := by
  unfold readD
  rw [if_pos ⟨tellD_good, decide_eq_true (by omega)⟩]
  show lastT _ _ [] = _
  rw [lastT_nil]
  unfold safeAt tellD
  have e : (1 + (k : Int)).toNat = k + 1 := by omega
  rw [e, List.getD_eq_getElem?_getD, List.getElem?_set_ne (by omega), List.getElem?_replicate, if_pos (by omega)]
  rfl
theorem tell_logL : ∃ r, logL tellD 2 = fit ⟨#[]⟩ :: r := by
  refine ⟨(logL tellD 2).tail, ?_⟩
  have h : (logL tellD 2).head? = some (fit ⟨#[]⟩) := by
    have e : (logL tellD 2).head? = some (readD tellD (1 + (2 + ((0 : Nat) : Int)) % 24)) := rfl
    rw [e]
    exact congrArg some (tell_log 2 (by decide))
  cases hl : logL tellD 2 with
  | nil => rw [hl] at h; cases h
  | cons s r =>
    rw [hl] at h
    simp only [List.head?_cons, Option.some.injEq] at h
    rw [h]; rfl
theorem tell_dec : decE (markS tellM) = 0 ∧ decM (markS tellM) = tellM := by
  have := dec_enc tellM_ok
  unfold markS
  rw [if_pos tellM_ok]
  exact ⟨this.2.2, this.2.1⟩
theorem tell_E : scanE tellD = 0 := by
  unfold scanE
  rw [if_pos tell_e, tell_0, if_pos ⟨tell_dec.1, by rw [tell_dec.2]; rfl⟩]
theorem tell_F : scanF tellD = ⟨[], 7, 2⟩ := by
  unfold scanF
  rw [if_pos tell_E, tell_0, tell_dec.2]
  have hg : scanGo 25 (logL tellD tellM.at_) tellM.seq = ([], 7, logL tellD 2) := by
    have hl : 25 = (logL tellD 2).length + 1 := by rw [logL_len]
    show scanGo 25 (logL tellD 2) 7 = _
    rw [hl]
    refine scanGo_stop ?_
    obtain ⟨r, hr⟩ := tell_logL
    rw [hr]
    exact parse_bad (fun h => by rw [zero_no] at h; exact absurd h.1 (by decide))
  rw [hg]
  show (⟨[], 7, (2 + (24 - ((logL tellD 2).length : Int))) % 24⟩ : Fnd) = _
  rw [logL_len]
  rfl
end Wb

namespace Go.Proofs.Ytjhmfljlclajnab
open Go.RowKit Wb
set_option linter.unusedVariables false
set_option linter.unusedSimpArgs false
set_option maxRecDepth 100000
set_option maxHeartbeats 4000000

theorem ref_GoodDisk (d : Dsk) (v : Value) (w : World) (hd : RDisk w v d) :
    Calls Try.prog 46 #[v] w fun e w' => e = .returned (.bool (goodD d)) ∧ Below w.heap.size w w' := by
  obtain ⟨vs, vw, rfl, hs, hw, n1, n2⟩ := hd
  obtain ⟨safe, writes⟩ := d
  dsimp only at *
  have hgi := goodD_iff ⟨safe, writes⟩
  dsimp only at hgi
  have hno : (¬ (safe.length = 37 ∧ writes.length ≤ 200 ∧ safe.all ok32 = true ∧ writes.all wrOk = true)) → goodD ⟨safe, writes⟩ = false := fun hh => by
    rw [← Bool.not_eq_true]; exact fun h2 => hh (hgi.1 h2)
  have hyes := hgi.2
  clear hgi
  generalize goodD ⟨safe, writes⟩ = g at *
  replace hno := hid hno
  replace hyes := hid hyes
  obtain ⟨a, cap, rfl, _⟩ := hs.form
  obtain ⟨b, bcap, rfl, _⟩ := hw.form
  replace hs := hid hs
  replace hw := hid hw
  have kb : Blk (w.alloc (.cells #[.slice a safe.length cap, .slice b writes.length bcap] 25)) w.heap.size #[.slice a safe.length cap, .slice b writes.length bcap] 25 := Blk.new w _ _
  have nf : 0 < w.heap.size + 1 := by omega
  go_enter Try.func46, Try.ntmps46
  go_wp2
  go_loop [4, 10] (fun _ i => ∃ k : Nat, k ≤ safe.length ∧ i = .int .i64 k ∧ Hid ((safe.take k).all ok32 = true)) (fun _ i => safe.length - (intOf i).toNat)
  case atStart => exact ⟨0, Nat.zero_le _, rfl, rfl⟩
  case round =>
    obtain ⟨k, hk, rfl, hall⟩ := hrel
    by_cases hlt : k < safe.length
    · obtain ⟨b, off, rfl, d0⟩ := RL.at1 (fun x => .string x) (fun _ => rfl) hs.out hlt
      have lt1 := World.block_lt_of_cell? _ _ d0
      dsimp only at lt1
      by_cases ht : ok32 safe[k] = true
      · have hst := hid (all_step hlt hall.out ht)
        have e2 : ((safe[k].size : Int) != 32) = false := by rw [of_decide_eq_true ht]; rfl
        clear ht hall hno hyes
        generalize safe[k] = x at *
        go_wp2
        go_round
        case rel => exact ⟨k + 1, by omega, by go_num, hst⟩
        case measure => simp [intOf]; omega
      · obtain rfl := hno.out (fun hh => by
          have := all_no hlt (p := ok32) (Bool.not_eq_true _ |>.mp ht)
          rw [this] at hh; exact Bool.noConfusion hh.2.2.1)
        have e2 : ((safe[k].size : Int) != 32) = true := bne_iff_ne.2 (fun hh => ht (decide_eq_true (by omega)))
        clear ht hall hno hyes
        generalize safe[k] = x at *
        go_wp2
        go_ret
        exact ⟨rfl, by repeat (first | exact Below.refl _ _ | with_reducible assumption | (refine allocB ?_ (by first | omega | (simp; done) | (simp; omega)) _) | (refine Below.setCell ?_ (by first | omega | (simp; done) | (simp; omega)) _) | refine Below.drew ?_ | (refine Below.trans ?_ (Below.mono (by with_reducible assumption) (by first | omega | (simp; done) | (simp; omega)))))⟩
    · have hfs := hid (all_full hk hlt hall.out)
      clear hall
      go_wp2
      go_loopw [6, 21] (fun _ i wr => ∃ k : Nat, k ≤ writes.length ∧ i = .int .i64 k ∧ Hid ((writes.take k).all wrOk = true) ∧ Blk wr w.heap.size #[.slice a safe.length cap, .slice b writes.length bcap] 25 ∧ Below w.heap.size w wr) (fun _ i _ => writes.length - (intOf i).toNat)
      case atStart => exact ⟨0, Nat.zero_le _, rfl, rfl, kb, by repeat (first | exact Below.refl _ _ | with_reducible assumption | (refine allocB ?_ (by first | omega | (simp; done) | (simp; omega)) _) | (refine Below.setCell ?_ (by first | omega | (simp; done) | (simp; omega)) _) | refine Below.drew ?_ | (refine Below.trans ?_ (Below.mono (by with_reducible assumption) (by first | omega | (simp; done) | (simp; omega)))))⟩
      case round =>
        obtain ⟨k, hk, rfl, hall, kb, hnx⟩ := hrel
        have lt0 := kb.lt
        by_cases hlt : k < writes.length
        · obtain ⟨b, off, rfl, d0, d1⟩ := RL.at2 (fun x => .int .i64 x.at_) (fun x => .string x.text) (fun _ => rfl) (hw.out.below hnx) hlt
          have lt1 := World.block_lt_of_cell? _ _ d0
          dsimp only at lt1
          have hA := fun w => ref_isAt writes[k].at_ w
          by_cases ht : ok32 writes[k].text = true
          · have e2 : ((writes[k].text.size : Int) != 32) = false := by rw [of_decide_eq_true ht]; rfl
            by_cases ha : isAt writes[k].at_ = true
            · rw [ha] at hA
              replace hA := hid hA
              have hst := hid (all_step hlt hall.out (by unfold wrOk; rw [ha, ht]; rfl))
              clear ha ht hall hno hyes
              generalize writes[k] = x at *
              go_wp2_with (go_at_call 74; refine (hA.out _).mono ?_; rintro e w1 ⟨rfl, rfl⟩)
              go_roundw
              case rel => exact ⟨k + 1, by omega, by go_num, hst, kb.alloc _, allocB hnx (by omega) _⟩
              case measure => simp [intOf]; omega
            · obtain rfl := hno.out (fun hh => by
                have := all_no hlt (p := wrOk) (by unfold wrOk; rw [Bool.not_eq_true _ |>.mp ha]; rfl)
                rw [this] at hh; exact Bool.noConfusion hh.2.2.2)
              rw [Bool.not_eq_true _ |>.mp ha] at hA
              replace hA := hid hA
              clear ha ht hall hno hyes
              generalize writes[k] = x at *
              go_wp2_with (go_at_call 74; refine (hA.out _).mono ?_; rintro e w1 ⟨rfl, rfl⟩)
              go_ret
              exact ⟨rfl, allocB hnx (by omega) _⟩
          · obtain rfl := hno.out (fun hh => by
              have := all_no hlt (p := wrOk) (by unfold wrOk; rw [Bool.not_eq_true _ |>.mp ht, Bool.and_false])
              rw [this] at hh; exact Bool.noConfusion hh.2.2.2)
            have e2 : ((writes[k].text.size : Int) != 32) = true := bne_iff_ne.2 (fun hh => ht (decide_eq_true (by omega)))
            clear ht hall hno hyes hA
            generalize writes[k] = x at *
            go_wp2
            go_ret
            exact ⟨rfl, allocB hnx (by omega) _⟩
        · have hf := hid (all_full hk hlt hall.out)
          have c0 := kb.cell 0
          have c1 := kb.cell 1
          simp only [List.getElem?_toArray, List.getElem?_cons_zero, List.getElem?_cons_succ] at c0 c1
          clear hall
          by_cases h37 : safe.length = 37
          · have e1 : ((safe.length : Int) == 37) = true := by rw [h37]; rfl
            by_cases h200 : writes.length ≤ 200
            · obtain rfl := hyes.out ⟨h37, h200, hfs.out, hf.out⟩
              clear hno hyes
              replace h37 := hid h37
              go_wp2
              go_ret
              exact ⟨ret_b (decide_eq_true (by omega)), hnx⟩
            · obtain rfl := hno.out (fun hh => h200 hh.2.1)
              clear hno hyes
              replace h37 := hid h37
              go_wp2
              go_ret
              exact ⟨ret_b (decide_eq_false (by omega)), hnx⟩
          · obtain rfl := hno.out (fun hh => h37 hh.1)
            have e1 : ((safe.length : Int) == 37) = false := beq_eq_false_iff_ne.2 (by omega)
            clear hno hyes
            replace h37 := hid h37
            go_wp2
            go_ret
            exact ⟨rfl, hnx⟩
end Go.Proofs.Ytjhmfljlclajnab

namespace Go.Proofs.Ytjhmfljlclajnab
open Go.RowKit Wb
set_option linter.unusedVariables false
set_option linter.unusedSimpArgs false
set_option maxRecDepth 100000
set_option maxHeartbeats 4000000

theorem elemStr : Elem Try.prog 22 9 1 16 := Elem.mk' (z := .string ⟨#[]⟩) Try.underlying22 (by kernel_rfl) rfl
theorem elemWr : Elem Try.prog 23 48 2 24 := Elem.mk' (z := .agg #[.int .i64 0, .string ⟨#[]⟩]) Try.underlying23 (by kernel_rfl) rfl

theorem ref_after (d : Dsk) (m : Nat) (v : Value) (w : World) (hd : RDisk w v d) (hm : m < d.safe.length) (hmx : d.writes.length ≤ 200) :
    Calls Try.prog 47 #[v, .int .i64 m] w fun e w' => ∃ v', e = .returned v' ∧ Own strC w.heap.size 9 1 w' v' (afterL d.safe[m] m d.writes) ∧ Below w.heap.size w w' := by
  obtain ⟨vs, vw, rfl, hs, hw, n1, n2⟩ := hd
  obtain ⟨safe, writes⟩ := d
  dsimp only at *
  obtain ⟨a, cap, rfl, _⟩ := hs.form
  obtain ⟨b, bcap, rfl, _⟩ := hw.form
  obtain ⟨b2, off, rfl, d0⟩ := RL.at1 (fun x => .string x) (fun _ => rfl) hs hm
  have lt2 := World.block_lt_of_cell? _ _ d0
  dsimp only at lt2
  have hhit := fun (k : Nat) (hk : k < writes.length) => afterL_hit safe[m] m hk
  have hmiss := fun (k : Nat) (hk : k < writes.length) => afterL_miss safe[m] m hk
  have hnil := afterL_nil safe[m] m
  have hlen := fun (k : Nat) => afterL_len safe[m] m (writes.take k)
  replace hw := hid hw
  replace hhit := hid hhit
  replace hmiss := hid hmiss
  replace hnil := hid hnil
  replace hlen := hid hlen
  clear hs
  generalize safe[m] = sm at *
  have nf : 0 < w.heap.size + 1 := by omega
  go_enter Try.func47, Try.ntmps47
  go_wp2
  go_loopw [5, 7, 17] (fun l _ i wr => ∃ k : Nat, k ≤ writes.length ∧ i = .int .i64 k ∧ Own strC (w.heap.size + 1) 9 1 wr l (afterL sm m (writes.take k)) ∧ Below w.heap.size w wr ∧ w.heap.size + 1 ≤ wr.heap.size) (fun _ _ i _ => writes.length - (intOf i).toNat)
  case atStart =>
    refine ⟨0, Nat.zero_le _, rfl, ?_, by repeat (first | exact Below.refl _ _ | with_reducible assumption | (refine allocB ?_ (by first | omega | (simp; done) | (simp; omega)) _) | (refine Below.setCell ?_ (by first | omega | (simp; done) | (simp; omega)) _) | refine Below.drew ?_ | (refine Below.trans ?_ (Below.mono (by with_reducible assumption) (by first | omega | (simp; done) | (simp; omega))))), by simp⟩
    rw [List.take_zero, hnil.out]
    exact Own.lit (f := strC) strC_flat (w.heap.size + 1) 9 (w.alloc _) [sm] (by simp) (by show 1 ≤ maxLen; decide) rfl (by simp) rfl
  case round =>
    obtain ⟨k, hk, rfl, hown, hnx, hz⟩ := hrel
    by_cases hlt : k < writes.length
    · obtain ⟨b3, off3, rfl, d1, d2⟩ := RL.at2 (fun x => .int .i64 x.at_) (fun x => .string x.text) (fun _ => rfl) (hw.out.below hnx) hlt
      have lt1 := World.block_lt_of_cell? _ _ d1
      dsimp only at lt1
      by_cases heq : writes[k].at_ = m
      · have hh := hhit.out k hlt heq
        have hl := hlen.out k
        rw [List.length_take] at hl
        have e1 : (writes[k].at_ == (m : Int)) = true := beq_iff_eq.2 heq
        replace hh := hid hh
        clear heq
        generalize writes[k] = x at *
        generalize afterL sm m (writes.take k) = ls at *
        go_wp2_with (at_builtin; go_loud (refine wpList_push rfl _ _ _ rfl (w.heap.size + 1) _ 1 16 strC_flat elemStr (hown.alloc _) rfl x.text rfl rfl ?c1 ?c2 ?c3 ?c4))
        all_goals try (case c1 => omega)
        all_goals try (case c2 => unfold maxLen; omega)
        all_goals try (case c3 => simp; omega)
        case c4 =>
          intro v7 w7 hown7 hbel7 _
          rw [← hh.out] at hown7
          have hz7 := hbel7.size
          go_wp2
          go_roundw
          case rel => exact ⟨k + 1, by omega, by go_num, hown7, (allocB hnx (by omega) _).trans (hbel7.mono (by omega)), by simp at hz7; omega⟩
          case measure => simp [intOf]; omega
      · have hh := hmiss.out k hlt heq
        have e1 : (writes[k].at_ == (m : Int)) = false := beq_eq_false_iff_ne.2 heq
        replace hh := hid hh
        clear heq
        generalize writes[k] = x at *
        go_wp2
        go_roundw
        case rel => exact ⟨k + 1, by omega, by go_num, by rw [hh.out]; exact hown.alloc _, allocB hnx (by omega) _, by simp; omega⟩
        case measure => simp [intOf]; omega
    · rw [List.take_of_length_le (by omega)] at hown
      go_wp2
      go_ret
      exact ⟨_, rfl, hown.mono (by omega), hnx⟩

theorem ref_ReadDisk (d : Dsk) (n : Int) (v : Value) (w : World) (hd : RDisk w v d) :
    Calls Try.prog 57 #[v, .int .i64 n] w fun e w' => e = .returned (.tuple #[.string (readD d n), .int .i64 (readE d n)]) ∧ Below w.heap.size w w' := by
  have hG := fun w (hh : RDisk w v d) => ref_GoodDisk d v w hh
  have hA := fun w => ref_isAt n w
  have hd2 := hd
  obtain ⟨vs, vw, rfl, hs, hw, n1, n2⟩ := hd
  obtain ⟨a, cap, rfl, _⟩ := hs.form
  obtain ⟨b, bcap, rfl, _⟩ := hw.form
  replace hd2 := hid hd2
  by_cases hg : goodD d = true
  · rw [hg] at hG
    by_cases ha : isAt n = true
    · rw [ha] at hA
      have hr : readD d n = lastT (safeAt d n) n d.writes := by unfold readD; rw [if_pos ⟨hg, ha⟩]
      have he : readE d n = 0 := by unfold readE; rw [if_pos ⟨hg, ha⟩]
      rw [he]
      obtain ⟨g1, g2, _, _⟩ := (goodD_iff d).1 hg
      obtain ⟨h0, h1⟩ : 0 ≤ n ∧ n < 37 := of_decide_eq_true ha
      obtain ⟨m, rfl⟩ : ∃ m : Nat, n = m := ⟨n.toNat, by omega⟩
      have hm : m < d.safe.length := by omega
      have hsf : safeAt d m = d.safe[m] := by simp [safeAt, hm]
      rw [hsf] at hr
      have hF := fun v w (hh : RDisk w v d) => ref_after d m v w hh hm g2
      have hla := after_last d.safe[m] m d.writes
      have hll := afterL_len d.safe[m] m d.writes
      rw [← hr] at hla
      clear hg ha he hsf hr hs hw g1
      generalize readD d m = r at *
      generalize afterL d.safe[m] m d.writes = ls at *
      obtain ⟨hl0, hl1⟩ : 0 < ls.length ∧ ls[ls.length - 1]? = some r := by
        rw [List.getLast?_eq_getElem?] at hla
        exact ⟨by have := (List.getElem?_eq_some_iff.1 hla).1; omega, hla⟩
      obtain ⟨safe, writes⟩ := d
      dsimp only at *
      replace hG := hid hG
      replace hA := hid hA
      replace hF := hid hF
      obtain ⟨q, hq⟩ : ∃ q, ls.length = q + 1 := ⟨ls.length - 1, by omega⟩
      have hql : q < ls.length := by omega
      have hqv : ls[q] = r := by
        rw [show ls.length - 1 = q by omega, List.getElem?_eq_getElem hql] at hl1
        exact Option.some.inj hl1
      replace hqv := hid hqv
      clear hla hm hl1 hl0
      go_enter Try.func57, Try.ntmps57
      go_wp2_with (first
        | (go_at_call 46; refine (hG.out _ (hd2.out.below (by repeat (first | exact Below.refl _ _ | with_reducible assumption | (refine allocB ?_ (by first | omega | (simp; done) | (simp; omega)) _) | (refine Below.setCell ?_ (by first | omega | (simp; done) | (simp; omega)) _) | refine Below.drew ?_ | (refine Below.trans ?_ (Below.mono (by with_reducible assumption) (by first | omega | (simp; done) | (simp; omega)))))))).mono ?_; rintro e w1 ⟨rfl, hb1⟩; obtain ⟨hbc, hbf⟩ := bcell hb1; have hbz := hb1.size; try simp only [World.size_alloc, World.size_setCell, World.size_drew] at hbz; have hz0 := Nat.lt_of_lt_of_le (n := w.heap.size) (by omega) hbz)
        | (go_at_call 74; refine (hA.out _).mono ?_; rintro e w2 ⟨rfl, rfl⟩)
        | (go_at_call 47; go_loud (refine (hF.out _ _ (hd2.out.below (by repeat (first | exact Below.refl _ _ | with_reducible assumption | (refine allocB ?_ (by first | omega | (simp; done) | (simp; omega)) _) | (refine Below.setCell ?_ (by first | omega | (simp; done) | (simp; omega)) _) | refine Below.drew ?_ | (refine Below.trans ?_ (Below.mono (by with_reducible assumption) (by first | omega | (simp; done) | (simp; omega)))))))).mono ?_; rintro e w3 ⟨v3, rfl, hown, hb3⟩; obtain ⟨a3, cap3, rfl⟩ := hown.form; obtain ⟨b3, off3, rfl, d3⟩ := RL.at1 (fun x => .string x) (fun _ => rfl) hown.reads hql; rw [hqv.out] at d3; rw [hq])))
      go_ret2
      exact ⟨rfl, by repeat (first | exact Below.refl _ _ | with_reducible assumption | (refine allocB ?_ (by first | omega | (simp; done) | (simp; omega)) _) | (refine Below.setCell ?_ (by first | omega | (simp; done) | (simp; omega)) _) | refine Below.drew ?_ | (refine Below.trans ?_ (Below.mono (by with_reducible assumption) (by first | omega | (simp; done) | (simp; omega)))))⟩
    · have hr : readD d n = ⟨#[]⟩ := by unfold readD; rw [if_neg (fun hh => ha hh.2)]
      have he : readE d n = 2 := by unfold readE; rw [if_neg (fun hh => ha hh.2)]
      rw [hr, he]
      rw [Bool.not_eq_true _ |>.mp ha] at hA
      clear hs hw ha hg hr he
      replace hG := hid hG
      replace hA := hid hA
      go_enter Try.func57, Try.ntmps57
      go_wp2_with (first
        | (go_at_call 46; refine (hG.out _ (hd2.out.below (by repeat (first | exact Below.refl _ _ | with_reducible assumption | (refine allocB ?_ (by first | omega | (simp; done) | (simp; omega)) _) | (refine Below.setCell ?_ (by first | omega | (simp; done) | (simp; omega)) _) | refine Below.drew ?_ | (refine Below.trans ?_ (Below.mono (by with_reducible assumption) (by first | omega | (simp; done) | (simp; omega)))))))).mono ?_; rintro e w1 ⟨rfl, hb1⟩; obtain ⟨hbc, hbf⟩ := bcell hb1; have hbz := hb1.size; try simp only [World.size_alloc, World.size_setCell, World.size_drew] at hbz; have hz0 := Nat.lt_of_lt_of_le (n := w.heap.size) (by omega) hbz)
        | (go_at_call 74; refine (hA.out _).mono ?_; rintro e w2 ⟨rfl, rfl⟩))
      go_ret2
      exact ⟨rfl, by repeat (first | exact Below.refl _ _ | with_reducible assumption | (refine allocB ?_ (by first | omega | (simp; done) | (simp; omega)) _) | (refine Below.setCell ?_ (by first | omega | (simp; done) | (simp; omega)) _) | refine Below.drew ?_ | (refine Below.trans ?_ (Below.mono (by with_reducible assumption) (by first | omega | (simp; done) | (simp; omega)))))⟩
  · have hr : readD d n = ⟨#[]⟩ := by unfold readD; rw [if_neg (fun hh => hg hh.1)]
    have he : readE d n = 2 := by unfold readE; rw [if_neg (fun hh => hg hh.1)]
    rw [hr, he]
    rw [Bool.not_eq_true _ |>.mp hg] at hG
    clear hs hw hg hr he
    replace hG := hid hG
    go_enter Try.func57, Try.ntmps57
    go_wp2_with (go_at_call 46; refine (hG.out _ (hd2.out.below (by repeat (first | exact Below.refl _ _ | with_reducible assumption | (refine allocB ?_ (by first | omega | (simp; done) | (simp; omega)) _) | (refine Below.setCell ?_ (by first | omega | (simp; done) | (simp; omega)) _) | refine Below.drew ?_ | (refine Below.trans ?_ (Below.mono (by with_reducible assumption) (by first | omega | (simp; done) | (simp; omega)))))))).mono ?_; rintro e w1 ⟨rfl, hb1⟩; obtain ⟨hbc, hbf⟩ := bcell hb1; have hbz := hb1.size; try simp only [World.size_alloc, World.size_setCell, World.size_drew] at hbz; have hz0 := Nat.lt_of_lt_of_le (n := w.heap.size) (by omega) hbz)
    go_ret2
    exact ⟨rfl, by repeat (first | exact Below.refl _ _ | with_reducible assumption | (refine allocB ?_ (by first | omega | (simp; done) | (simp; omega)) _) | (refine Below.setCell ?_ (by first | omega | (simp; done) | (simp; omega)) _) | refine Below.drew ?_ | (refine Below.trans ?_ (Below.mono (by with_reducible assumption) (by first | omega | (simp; done) | (simp; omega)))))⟩
end Go.Proofs.Ytjhmfljlclajnab

namespace Go.Proofs.Ytjhmfljlclajnab
open Go.RowKit Wb
set_option linter.unusedVariables false
set_option linter.unusedSimpArgs false
set_option maxRecDepth 100000
set_option maxHeartbeats 4000000

theorem ref_CopyDisk (d : Dsk) (v : Value) (w : World) (hd : RDisk w v d) :
    Calls Try.prog 9 #[v] w fun e w' => ∃ vs vw, e = .returned (.agg #[vs, vw]) ∧ Own strC w.heap.size 9 1 w' vs d.safe ∧ Own wrC w.heap.size 48 2 w' vw d.writes ∧ (vs.ownBlock = none ∨ vs.ownBlock ≠ vw.ownBlock) ∧ Below w.heap.size w w' := by
  obtain ⟨vs, vw, rfl, hs, hw, n1, n2⟩ := hd
  obtain ⟨safe, writes⟩ := d
  dsimp only at *
  obtain ⟨a, cap, rfl, c1, c2⟩ := hs.form
  obtain ⟨b, bcap, rfl, c3, c4⟩ := hw.form
  replace hs := hid hs
  replace hw := hid hw
  go_enter Try.func9, Try.ntmps9
  go_wp2
  go_region_law (first
    | (refine step_app rfl _ _ 22 rfl _ _ 1 16 strC_flat elemStr (Own.nil _ _ _ _ _) rfl safe (hs.out.below (by repeat (first | exact Below.refl _ _ | with_reducible assumption | (refine allocB ?_ (by first | omega | (simp; done) | (simp; omega)) _) | (refine Below.setCell ?_ (by first | omega | (simp; done) | (simp; omega)) _) | refine Below.drew ?_ | (refine Below.trans ?_ (Below.mono (by with_reducible assumption) (by first | omega | (simp; done) | (simp; omega))))))) rfl (by simp; omega) (by simp; omega) (Nat.le_refl _) ?_; intro v1 w1 hown1 hb1 _; obtain ⟨a1, cap1, rfl⟩ := hown1.form; obtain ⟨hbc, hbf⟩ := bcell hb1; have hbz := hb1.size; try simp only [World.size_alloc, World.size_setCell, World.size_drew] at hbz; have hz0 := Nat.lt_of_lt_of_le (n := w.heap.size) (by omega) hbz; have hz1 := Nat.lt_of_lt_of_le (n := w.heap.size + 1) (by omega) hbz; simp only [List.nil_append] at hown1)
    | (refine step_app rfl _ _ 23 rfl _ _ 2 24 wrC_flat elemWr (Own.nil _ _ _ _ _) rfl writes (hw.out.below (by repeat (first | exact Below.refl _ _ | with_reducible assumption | (refine allocB ?_ (by first | omega | (simp; done) | (simp; omega)) _) | (refine Below.setCell ?_ (by first | omega | (simp; done) | (simp; omega)) _) | refine Below.drew ?_ | (refine Below.trans ?_ (Below.mono (by with_reducible assumption) (by first | omega | (simp; done) | (simp; omega))))))) rfl (by simp; omega) (by simp; omega) (Nat.le_refl _) ?_; intro v2 w2 hown2 hb2 _; obtain ⟨a2, cap2, rfl⟩ := hown2.form; obtain ⟨hbc2, hbf2⟩ := bcell hb2; simp only [List.nil_append] at hown2))
  all_goals
    have hz2 := hb2.size
    have t1 := World.ownsRow.lt hown1
    have t2 := World.ownsRow.lt hown2
    have hsep : (Value.slice a1 safe.length cap1).ownBlock = none ∨ (Value.slice a1 safe.length cap1).ownBlock ≠ (Value.slice a2 writes.length cap2).ownBlock := by
      cases h1 : (Value.slice a1 safe.length cap1).ownBlock with
      | none => exact .inl rfl
      | some k =>
        refine .inr fun h2 => ?_
        have g1 := (t1 k h1).2
        have g2 := (t2 k h2.symm).1
        omega
    have k1 : Blk _ (w.heap.size + 1) #[.slice a1 safe.length cap1, .slice a2 writes.length cap2] 25 := (((((Blk.newAt (w := w.alloc (.cells #[.slice a safe.length cap, .slice b writes.length bcap] 25)) (cs := #[.slice none 0 0, .slice none 0 0]) (t := 25) (n := w.heap.size + 1) (by simp)).drew.step hb1).step hb2).set 0 (.slice a1 safe.length cap1)).set 1 (.slice a2 writes.length cap2))
    have o1 := ((hown1.below hb2).setCell (p := ⟨w.heap.size + 1, 0, none⟩) (by simp) (.slice a1 safe.length cap1)).setCell (p := ⟨w.heap.size + 1, 1, none⟩) (by simp) (.slice a2 writes.length cap2)
    have o2 := (hown2.setCell (p := ⟨w.heap.size + 1, 0, none⟩) (by simp; omega) (.slice a1 safe.length cap1)).setCell (p := ⟨w.heap.size + 1, 1, none⟩) (by simp; omega) (.slice a2 writes.length cap2)
    have hnx : Below w.heap.size w ((w2.setCell ⟨w.heap.size + 1, 0, none⟩ (.slice a1 safe.length cap1)).setCell ⟨w.heap.size + 1, 1, none⟩ (.slice a2 writes.length cap2)) := by repeat (first | exact Below.refl _ _ | with_reducible assumption | (refine allocB ?_ (by first | omega | (simp; done) | (simp; omega)) _) | (refine Below.setCell ?_ (by first | omega | (simp; done) | (simp; omega)) _) | refine Below.drew ?_ | (refine Below.trans ?_ (Below.mono (by with_reducible assumption) (by first | omega | (simp; done) | (simp; omega)))))
    generalize (w2.setCell ⟨w.heap.size + 1, 0, none⟩ (.slice a1 safe.length cap1)).setCell ⟨w.heap.size + 1, 1, none⟩ (.slice a2 writes.length cap2) = w3 at *
    replace o1 := o1.mono (base' := w.heap.size) (by simp; omega)
    replace o2 := o2.mono (base' := w.heap.size) (by omega)
    clear hb1 hb2 hbc hbf hbc2 hbf2 hown1 hown2 hbz hz0 hz1 hz2 t1 t2
    have d0 := k1.cell 0
    have d1 := k1.cell 1
    simp only [List.getElem?_toArray, List.getElem?_cons_zero, List.getElem?_cons_succ] at d0 d1
    go_wp2
    exact bodyPost_ret (v := .agg #[.slice a1 safe.length cap1, .slice a2 writes.length cap2]) (by simp [results, Try.results9, go_sem, d0, d1]) rfl ⟨_, _, rfl, o1, o2, hsep, hnx⟩
end Go.Proofs.Ytjhmfljlclajnab

namespace Go.Proofs.Ytjhmfljlclajnab
open Go.RowKit Wb
set_option linter.unusedVariables false
set_option linter.unusedSimpArgs false
set_option maxRecDepth 100000
set_option maxHeartbeats 4000000

theorem clone_Writes (l : List Wr) (v : Value) (w : World) (hl : RL wrC w v l) (hn : l.length ≤ 5864062014805) :
    Calls Try.prog 75 #[v] w fun e w' => ∃ v', e = .returned v' ∧ Own wrC w.heap.size 48 2 w' v' l ∧ Below w.heap.size w w' := by
  obtain ⟨a, cap, rfl, c1, c2⟩ := hl.form
  have q24 : ∀ (w : World) (a : Option Addr) (n c n' c' : Nat), (binOp .eql 23 (.slice a n c) (.slice none n' c')).run Try.prog w = .ok (.bool a.isNone) w := fun w a n c n' c' => Lib.run_eql_slice_nil w _ _ a n c n' c' Try.underlying23
  cases a with
  | none =>
    have h0 : l = [] := by
      obtain ⟨a', cap', hv, _, _, h3⟩ := hl
      rcases h3 with h3 | ⟨b, off, ha, _⟩
      · cases l with
        | nil => rfl
        | cons x l => simp [wrC] at h3
      · simp only [Value.slice.injEq] at hv
        rw [ha] at hv
        exact absurd hv.1 (by simp)
    subst h0
    go_enter Try.func75, Try.ntmps75
    go_wp2
    go_ret
    exact ⟨_, rfl, Own.nil _ _ _ _ _, by repeat (first | exact Below.refl _ _ | with_reducible assumption | (refine allocB ?_ (by first | omega | (simp; done) | (simp; omega)) _) | (refine Below.setCell ?_ (by first | omega | (simp; done) | (simp; omega)) _) | refine Below.drew ?_ | (refine Below.trans ?_ (Below.mono (by with_reducible assumption) (by first | omega | (simp; done) | (simp; omega)))))⟩
  | some a =>
    replace hl := hid hl
    go_enter Try.func75, Try.ntmps75
    go_wp2_with (at_builtin; go_loud (refine wpList_app rfl _ _ _ rfl w.heap.size _ 2 24 wrC_flat elemWr (Own.lit wrC_flat w.heap.size _ w [] (Nat.le_refl _) (Nat.zero_le _) rfl rfl rfl) rfl l (hl.out.below (by repeat (first | exact Below.refl _ _ | with_reducible assumption | (refine allocB ?_ (by first | omega | (simp; done) | (simp; omega)) _) | (refine Below.setCell ?_ (by first | omega | (simp; done) | (simp; omega)) _) | refine Below.drew ?_ | (refine Below.trans ?_ (Below.mono (by with_reducible assumption) (by first | omega | (simp; done) | (simp; omega))))))) rfl ?k1 ?k2 ?k3 ?k4))
    all_goals try (case k1 => simp; omega)
    all_goals try (case k2 => simp; omega)
    all_goals try (case k3 => simp)
    case k4 =>
      intro v7 w7 hown7 hgrow
      have hb : Below w.heap.size w w7 := (allocB (Below.refl _ _) (Nat.le_refl _) _).grown hgrow (by simp) (fun k hk => by simp [Value.ownBlock] at hk; omega)
      go_wp2
      go_ret
      exact ⟨_, rfl, hown7, hb⟩
theorem clone_Strings (l : List ByteArray) (v : Value) (w : World) (hl : RL strC w v l) (hn : l.length ≤ 8796093022208) :
    Calls Try.prog 45 #[v] w fun e w' => ∃ v', e = .returned v' ∧ Own strC w.heap.size 9 1 w' v' l ∧ Below w.heap.size w w' := by
  obtain ⟨a, cap, rfl, c1, c2⟩ := hl.form
  have q24 : ∀ (w : World) (a : Option Addr) (n c n' c' : Nat), (binOp .eql 22 (.slice a n c) (.slice none n' c')).run Try.prog w = .ok (.bool a.isNone) w := fun w a n c n' c' => Lib.run_eql_slice_nil w _ _ a n c n' c' Try.underlying22
  cases a with
  | none =>
    have h0 : l = [] := by
      obtain ⟨a', cap', hv, _, _, h3⟩ := hl
      rcases h3 with h3 | ⟨b, off, ha, _⟩
      · cases l with
        | nil => rfl
        | cons x l => simp [strC] at h3
      · simp only [Value.slice.injEq] at hv
        rw [ha] at hv
        exact absurd hv.1 (by simp)
    subst h0
    go_enter Try.func45, Try.ntmps45
    go_wp2
    go_ret
    exact ⟨_, rfl, Own.nil _ _ _ _ _, by repeat (first | exact Below.refl _ _ | with_reducible assumption | (refine allocB ?_ (by first | omega | (simp; done) | (simp; omega)) _) | (refine Below.setCell ?_ (by first | omega | (simp; done) | (simp; omega)) _) | refine Below.drew ?_ | (refine Below.trans ?_ (Below.mono (by with_reducible assumption) (by first | omega | (simp; done) | (simp; omega)))))⟩
  | some a =>
    replace hl := hid hl
    go_enter Try.func45, Try.ntmps45
    go_wp2_with (at_builtin; go_loud (refine wpList_app rfl _ _ _ rfl w.heap.size _ 1 16 strC_flat elemStr (Own.lit strC_flat w.heap.size _ w [] (Nat.le_refl _) (Nat.zero_le _) rfl rfl rfl) rfl l (hl.out.below (by repeat (first | exact Below.refl _ _ | with_reducible assumption | (refine allocB ?_ (by first | omega | (simp; done) | (simp; omega)) _) | (refine Below.setCell ?_ (by first | omega | (simp; done) | (simp; omega)) _) | refine Below.drew ?_ | (refine Below.trans ?_ (Below.mono (by with_reducible assumption) (by first | omega | (simp; done) | (simp; omega))))))) rfl ?k1 ?k2 ?k3 ?k4))
    all_goals try (case k1 => simp; omega)
    all_goals try (case k2 => simp; omega)
    all_goals try (case k3 => simp)
    case k4 =>
      intro v7 w7 hown7 hgrow
      have hb : Below w.heap.size w w7 := (allocB (Below.refl _ _) (Nat.le_refl _) _).grown hgrow (by simp) (fun k hk => by simp [Value.ownBlock] at hk; omega)
      go_wp2
      go_ret
      exact ⟨_, rfl, hown7, hb⟩
end Go.Proofs.Ytjhmfljlclajnab

namespace Go.Proofs.Ytjhmfljlclajnab
open Go.RowKit Wb
set_option linter.unusedVariables false
set_option linter.unusedSimpArgs false
set_option maxRecDepth 100000
set_option maxHeartbeats 4000000

theorem ref_SameDisk (d : Dsk) (v1 v2 : Value) (w : World) (hd1 : RDisk w v1 d) (hd2 : RDisk w v2 d) :
    Calls Try.prog 12 #[v1, v2] w fun e w' => e = .returned (.bool true) ∧ Below w.heap.size w w' := by
  obtain ⟨vs, vw, rfl, hs, hw, n1, n2⟩ := hd1
  obtain ⟨vs2, vw2, rfl, hs2, hw2, _, _⟩ := hd2
  obtain ⟨safe, writes⟩ := d
  dsimp only at *
  obtain ⟨a, cap, rfl, _⟩ := hs.form
  obtain ⟨b, bcap, rfl, _⟩ := hw.form
  obtain ⟨a2, cap2, rfl, _⟩ := hs2.form
  obtain ⟨b2, bcap2, rfl, _⟩ := hw2.form
  replace hs := hid hs; replace hw := hid hw; replace hs2 := hid hs2; replace hw2 := hid hw2
  go_enter Try.func12, Try.ntmps12
  go_wp2
  go_loopw [5, 26] (fun _ i wr => ∃ k : Nat, k ≤ safe.length ∧ i = .int .i64 k ∧ Blk wr w.heap.size #[.slice a safe.length cap, .slice b writes.length bcap] 25 ∧ Blk wr (w.heap.size + 1) #[.slice a2 safe.length cap2, .slice b2 writes.length bcap2] 25 ∧ Below w.heap.size w wr) (fun _ i _ => safe.length - (intOf i).toNat)
  case atStart => exact ⟨0, Nat.zero_le _, rfl, (Blk.new w _ _).alloc _, Blk.newAt (by simp), by repeat (first | exact Below.refl _ _ | with_reducible assumption | (refine allocB ?_ (by first | omega | (simp; done) | (simp; omega)) _) | (refine Below.setCell ?_ (by first | omega | (simp; done) | (simp; omega)) _) | refine Below.drew ?_ | (refine Below.trans ?_ (Below.mono (by with_reducible assumption) (by first | omega | (simp; done) | (simp; omega)))))⟩
  case round =>
    obtain ⟨k, hk, rfl, k0, k1, hnx⟩ := hrel
    have c0 := k0.cell 0
    have c1 := k0.cell 1
    have e0 := k1.cell 0
    have e1 := k1.cell 1
    simp only [List.getElem?_toArray, List.getElem?_cons_zero, List.getElem?_cons_succ] at c0 c1 e0 e1
    by_cases hlt : k < safe.length
    · obtain ⟨x1, o1, rfl, d0⟩ := RL.at1 (fun x => .string x) (fun _ => rfl) (hs.out.below hnx) hlt
      obtain ⟨x2, o2, rfl, d1⟩ := RL.at1 (fun x => .string x) (fun _ => rfl) (hs2.out.below hnx) hlt
      generalize safe[k] = x at *
      go_wp2
      go_quiet (fail)
      go_wp2
      go_roundw
      case rel => exact ⟨k + 1, by omega, by go_num, k0, k1, belowDrewN hnx⟩
      case measure => simp [intOf]; omega
    · go_wp2
      go_loopw [6, 44] (fun _ i wr => ∃ k : Nat, k ≤ writes.length ∧ i = .int .i64 k ∧ Blk wr w.heap.size #[.slice a safe.length cap, .slice b writes.length bcap] 25 ∧ Blk wr (w.heap.size + 1) #[.slice a2 safe.length cap2, .slice b2 writes.length bcap2] 25 ∧ Below w.heap.size w wr) (fun _ i _ => writes.length - (intOf i).toNat)
      case atStart => exact ⟨0, Nat.zero_le _, rfl, k0, k1, hnx⟩
      case round =>
        clear c0 c1 e0 e1 k0 k1 hnx
        obtain ⟨k, hk, rfl, k0, k1, hnx⟩ := hrel
        have c1 := k0.cell 1
        have e1 := k1.cell 1
        simp only [List.getElem?_toArray, List.getElem?_cons_zero, List.getElem?_cons_succ] at c1 e1
        by_cases hlt : k < writes.length
        · obtain ⟨x1, o1, rfl, d0, d00⟩ := RL.at2 (fun x => .int .i64 x.at_) (fun x => .string x.text) (fun _ => rfl) (hw.out.below hnx) hlt
          obtain ⟨x2, o2, rfl, d1, d11⟩ := RL.at2 (fun x => .int .i64 x.at_) (fun x => .string x.text) (fun _ => rfl) (hw2.out.below hnx) hlt
          generalize writes[k] = x at *
          go_wp2
          go_quiet (fail)
          go_wp2
          go_roundw
          case rel => exact ⟨k + 1, by omega, by go_num, k0, k1, belowDrewN hnx⟩
          case measure => simp [intOf]; omega
        · go_wp2
          go_ret
          exact ⟨rfl, hnx⟩
theorem keep_sameDisk (d : Dsk) (v1 v2 : Value) (w : World) (hd1 : RDisk w v1 d) (hd2 : RDisk w v2 d) :
    Calls Try.prog 22 #[v1, v2] w fun e w' => e = .returned (.bool true) ∧ Below w.heap.size w w' := by
  obtain ⟨vs, vw, rfl, hs, hw, n1, n2⟩ := hd1
  obtain ⟨vs2, vw2, rfl, hs2, hw2, _, _⟩ := hd2
  obtain ⟨safe, writes⟩ := d
  dsimp only at *
  obtain ⟨a, cap, rfl, _⟩ := hs.form
  obtain ⟨b, bcap, rfl, _⟩ := hw.form
  obtain ⟨a2, cap2, rfl, _⟩ := hs2.form
  obtain ⟨b2, bcap2, rfl, _⟩ := hw2.form
  replace hs := hid hs; replace hw := hid hw; replace hs2 := hid hs2; replace hw2 := hid hw2
  go_enter Try.func22, Try.ntmps22
  go_wp2
  go_loopw [5] (fun i wr => ∃ k : Nat, k ≤ safe.length ∧ i = .int .i64 k ∧ Blk wr w.heap.size #[.slice a safe.length cap, .slice b writes.length bcap] 25 ∧ Blk wr (w.heap.size + 1) #[.slice a2 safe.length cap2, .slice b2 writes.length bcap2] 25 ∧ Below w.heap.size w wr) (fun i _ => safe.length - (intOf i).toNat)
  case atStart => exact ⟨0, Nat.zero_le _, rfl, (Blk.new w _ _).alloc _, Blk.newAt (by simp), by repeat (first | exact Below.refl _ _ | with_reducible assumption | (refine allocB ?_ (by first | omega | (simp; done) | (simp; omega)) _) | (refine Below.setCell ?_ (by first | omega | (simp; done) | (simp; omega)) _) | refine Below.drew ?_ | (refine Below.trans ?_ (Below.mono (by with_reducible assumption) (by first | omega | (simp; done) | (simp; omega)))))⟩
  case round =>
    obtain ⟨k, hk, rfl, k0, k1, hnx⟩ := hrel
    have c0 := k0.cell 0
    have c1 := k0.cell 1
    have e0 := k1.cell 0
    have e1 := k1.cell 1
    simp only [List.getElem?_toArray, List.getElem?_cons_zero, List.getElem?_cons_succ] at c0 c1 e0 e1
    by_cases hlt : k < safe.length
    · obtain ⟨x1, o1, rfl, d0⟩ := RL.at1 (fun x => .string x) (fun _ => rfl) (hs.out.below hnx) hlt
      obtain ⟨x2, o2, rfl, d1⟩ := RL.at1 (fun x => .string x) (fun _ => rfl) (hs2.out.below hnx) hlt
      generalize safe[k] = x at *
      go_wp2
      go_quiet (fail)
      go_wp2
      go_roundw
      case rel => exact ⟨k + 1, by omega, by go_num, k0, k1, belowDrewN hnx⟩
      case measure => simp [intOf]; omega
    · go_wp2
      go_loopw [6] (fun i wr => ∃ k : Nat, k ≤ writes.length ∧ i = .int .i64 k ∧ Blk wr w.heap.size #[.slice a safe.length cap, .slice b writes.length bcap] 25 ∧ Blk wr (w.heap.size + 1) #[.slice a2 safe.length cap2, .slice b2 writes.length bcap2] 25 ∧ Below w.heap.size w wr) (fun i _ => writes.length - (intOf i).toNat)
      case atStart => exact ⟨0, Nat.zero_le _, rfl, k0, k1, hnx⟩
      case round =>
        clear c0 c1 e0 e1 k0 k1 hnx
        obtain ⟨k, hk, rfl, k0, k1, hnx⟩ := hrel
        have c1 := k0.cell 1
        have e1 := k1.cell 1
        simp only [List.getElem?_toArray, List.getElem?_cons_zero, List.getElem?_cons_succ] at c1 e1
        by_cases hlt : k < writes.length
        · obtain ⟨x1, o1, rfl, d0, d00⟩ := RL.at2 (fun x => .int .i64 x.at_) (fun x => .string x.text) (fun _ => rfl) (hw.out.below hnx) hlt
          obtain ⟨x2, o2, rfl, d1, d11⟩ := RL.at2 (fun x => .int .i64 x.at_) (fun x => .string x.text) (fun _ => rfl) (hw2.out.below hnx) hlt
          generalize writes[k] = x at *
          go_wp2
          go_quiet (fail)
          go_wp2
          go_roundw
          case rel => exact ⟨k + 1, by omega, by go_num, k0, k1, belowDrewN hnx⟩
          case measure => simp [intOf]; omega
        · go_wp2
          go_ret
          exact ⟨rfl, hnx⟩
end Go.Proofs.Ytjhmfljlclajnab

namespace Go.Proofs.Ytjhmfljlclajnab
open Go.RowKit Wb
set_option linter.unusedVariables false
set_option linter.unusedSimpArgs false
set_option maxRecDepth 100000
set_option maxHeartbeats 1000000

theorem disk_Put_good (d : Dsk) (n : Int) (t : ByteArray) (v : Value) (w : World) (hd : RDisk w v d) (hg : goodD d = true) (ha : isAt n = true) (h32 : t.size = 32) (h200 : ¬ 200 ≤ d.writes.length) :
    Calls Try.prog 48 #[v, .int .i64 n, .string t] w fun e w' => ∃ v', e = .returned (.tuple #[v', .int .i64 0]) ∧ RDisk w' v' ⟨d.safe, d.writes ++ [⟨n, t⟩]⟩ ∧ Below w.heap.size w w' := by
  have hG := fun w (hh : RDisk w v d) => disk_Good d v w hh
  have hA := fun w => disk_at n w
  rw [hg] at hG
  rw [ha] at hA
  have e1 : ((t.size : Int) != 32) = false := by rw [h32]; rfl
  have hd2 := hd
  obtain ⟨vs, vw, rfl, hs, hw, n1, n2⟩ := hd
  obtain ⟨a, cap, rfl, ca1, ca2⟩ := hs.form
  obtain ⟨b, bcap, rfl, cb1, cb2⟩ := hw.form
  replace hd2 := hid hd2
  clear hg ha h32
  obtain ⟨safe, writes⟩ := d
  dsimp only at *
  have hC := fun v w (hh : RL wrC w v writes) => clone_Writes writes v w hh n2
  replace hG := hid hG
  replace hA := hid hA
  replace hC := hid hC
  replace hs := hid hs
  replace hw := hid hw
  go_enter Try.func48, Try.ntmps48
  go_wp2_with (first
    | (go_at_call 20; refine (hG.out _ (hd2.out.below (by repeat (first | exact Below.refl _ _ | with_reducible assumption | (refine allocB ?_ (by first | omega | (simp; done) | (simp; omega)) _) | (refine Below.setCell ?_ (by first | omega | (simp; done) | (simp; omega)) _) | refine Below.drew ?_ | (refine Below.trans ?_ (Below.mono (by with_reducible assumption) (by first | omega | (simp; done) | (simp; omega)))))))).mono ?_; rintro e w1 ⟨rfl, hb1⟩; obtain ⟨hbc, hbf⟩ := bcell hb1; have hbz := hb1.size; try simp only [World.size_alloc, World.size_setCell, World.size_drew] at hbz; have hz0 := Nat.lt_of_lt_of_le (n := w.heap.size) (by omega) hbz; have hz1 := Nat.lt_of_lt_of_le (n := w.heap.size + 1) (by omega) hbz)
    | (go_at_call 53; refine (hA.out _).mono ?_; rintro e w2 ⟨rfl, rfl⟩))
  have hnx : Below w.heap.size w w1 := by repeat (first | exact Below.refl _ _ | with_reducible assumption | (refine allocB ?_ (by first | omega | (simp; done) | (simp; omega)) _) | (refine Below.setCell ?_ (by first | omega | (simp; done) | (simp; omega)) _) | refine Below.drew ?_ | (refine Below.trans ?_ (Below.mono (by with_reducible assumption) (by first | omega | (simp; done) | (simp; omega)))))
  have k0 : Blk w1 w.heap.size #[.slice a safe.length cap, .slice b writes.length bcap] 25 := ((Blk.new w _ _).alloc _).step hb1
  have k1 : Blk w1 (w.heap.size + 1) #[.slice none 0 0, .slice none 0 0] 25 := (Blk.newAt (w := w.alloc _) (by simp)).step hb1
  have c0 := k0.cell 0
  have c1 := k0.cell 1
  simp only [List.getElem?_toArray, List.getElem?_cons_zero, List.getElem?_cons_succ] at c0 c1
  have hw1 := hid (hw.out.below hnx)
  clear hb1 hbc hbf hw hd2
  go_region_held3 (fun w' => w'.cell? ⟨w.heap.size, 0, none⟩ = some (.slice a safe.length cap) ∧ w'.cell? ⟨w.heap.size, 1, none⟩ = some (.slice b writes.length bcap)) (first | exact ⟨by with_reducible assumption, by with_reducible assumption⟩ | go_keep) (first
    | (refine step_call 75 _ _ (by rfl) (by rfl) #[.slice b writes.length bcap] (by rfl) ⟨_, _, Try.func75, by kernel_rfl, rfl⟩ (hC.out _ _ (hw1.out.below (by repeat (first | exact Below.refl _ _ | with_reducible assumption | (refine allocB ?_ (by first | omega | (simp; done) | (simp; omega)) _) | (refine Below.setCell ?_ (by first | omega | (simp; done) | (simp; omega)) _) | refine Below.drew ?_ | (refine Below.trans ?_ (Below.mono (by with_reducible assumption) (by first | omega | (simp; done) | (simp; omega)))))))) ?_; rintro e w3 ⟨v3, rfl, hown3, hb3⟩; obtain ⟨a3, cap3, rfl⟩ := hown3.form; have hz3 : w1.heap.size ≤ w3.heap.size := (by have h := hb3.size; simp at h; omega); have k3 : Blk w3 (w.heap.size + 1) #[.slice none 0 0, .slice none 0 0] 25 := (by with_reducible (first | exact k1.drew.step hb3 | exact (k1.alloc _).drew.step hb3)); replace hown3 := hown3.mono (base' := w1.heap.size) (by simp); have hb13 : Below w.heap.size w w3 := (by with_reducible (first | exact hnx.drew.trans (hb3.mono (by simp; omega)) | exact (allocB hnx (by omega) _).drew.trans (hb3.mono (by simp; omega)))); have k03 : Blk w3 w.heap.size #[.slice a safe.length cap, .slice b writes.length bcap] 25 := (by with_reducible (first | exact k0.drew.step hb3 | exact (k0.alloc _).drew.step hb3)); have p0 := k03.cell 0; have p1 := k03.cell 1; simp only [List.getElem?_toArray, List.getElem?_cons_zero, List.getElem?_cons_succ] at p0 p1; refine ⟨_, rfl, ?_⟩)
    | go_loud (refine step_app (by rfl) _ _ 23 (by rfl) w1.heap.size _ 2 24 wrC_flat elemWr (hown3.alloc _) (by rfl) [⟨n, t⟩] (RL.newN (f := wrC) _ _ _ [⟨n, t⟩] (by show 1 ≤ maxLen; decide)) (by rfl) (by (try simp); omega) (by (try simp); unfold maxLen; omega) (by (try simp); omega) ?_; intro v4 w4 hown4 hb4 _; obtain ⟨a4, cap4, rfl⟩ := hown4.form; have k4 := (k3.alloc _).below hb4 (by omega); have hb14 := (allocB hb13 (by omega) _).trans (hb4.mono (by omega)); have k04 := (k03.alloc _).below hb4 (by omega); have p2 := k04.cell 0; have p3 := k04.cell 1; simp only [List.getElem?_toArray, List.getElem?_cons_zero, List.getElem?_cons_succ] at p2 p3; have f0 := k4.cell 0; have f1 := k4.cell 1; simp only [List.getElem?_toArray, List.getElem?_cons_zero, List.getElem?_cons_succ] at f0 f1; have f2 := k4.free 0; have f3 := k4.free 1)
    | go_loud (refine step_app (by rfl) _ _ 23 (by rfl) w1.heap.size _ 2 24 wrC_flat elemWr hown3 (by rfl) [⟨n, t⟩] (RL.ofBlk (f := wrC) (g := w1.heap.size) [⟨n, t⟩] ((Blk.newAt (w := w1) (by simp)).drew.step hb3) (by show 1 ≤ maxLen; decide)) (by rfl) (by (try simp); omega) (by (try simp); unfold maxLen; omega) (by (try simp); omega) ?_; intro v4 w4 hown4 hb4 _; obtain ⟨a4, cap4, rfl⟩ := hown4.form; have k4 := k3.below hb4 (by omega); have hb14 := hb13.trans (hb4.mono (by omega)); have k04 := k03.below hb4 (by omega); have p2 := k04.cell 0; have p3 := k04.cell 1; simp only [List.getElem?_toArray, List.getElem?_cons_zero, List.getElem?_cons_succ] at p2 p3; have f0 := k4.cell 0; have f1 := k4.cell 1; simp only [List.getElem?_toArray, List.getElem?_cons_zero, List.getElem?_cons_succ] at f0 f1; have f2 := k4.free 0; have f3 := k4.free 1))
  all_goals
    go_wp2
    have e4 : (writes ++ [(⟨n, t⟩ : Wr)]).length = writes.length + 1 := by simp
    rw [e4] at hown4
    have l1 := k1.lt
    have hF : Below w.heap.size w ((w4.setCell ⟨w.heap.size + 1, 0, none⟩ (.slice a safe.length cap)).setCell ⟨w.heap.size + 1, 1, none⟩ (.slice a4 (writes.length + 1) cap4)) := (hb14.setCell (by simp) _).setCell (by simp) _
    refine bodyPost_ret (v := .tuple #[.agg #[.slice a safe.length cap, .slice a4 (writes.length + 1) cap4], .int .i64 0]) (by simp [results, Try.results48, go_sem, f0, f1]) rfl ⟨_, rfl, ⟨_, _, rfl, hs.out.below hF, ?_, n1, by simp; omega⟩, hF⟩
    exact ((hown4.setCell (by simp; omega) _).setCell (by simp; omega) _).reads
end Go.Proofs.Ytjhmfljlclajnab

namespace Go.Proofs.Ytjhmfljlclajnab
open Go.RowKit Wb
set_option linter.unusedVariables false
set_option linter.unusedSimpArgs false
set_option maxRecDepth 100000
set_option maxHeartbeats 1000000

theorem disk_Put (d : Dsk) (n : Int) (t : ByteArray) (v : Value) (w : World) (hd : RDisk w v d) :
    Calls Try.prog 48 #[v, .int .i64 n, .string t] w fun e w' => ∃ v', e = .returned (.tuple #[v', .int .i64 (putE d n t)]) ∧ RDisk w' v' (putD d n t) ∧ Below w.heap.size w w' := by
  have hG := fun w (hh : RDisk w v d) => disk_Good d v w hh
  have hA := fun w => disk_at n w
  have hd2 := hd
  obtain ⟨vs, vw, rfl, hs, hw, n1, n2⟩ := hd
  obtain ⟨a, cap, rfl, _⟩ := hs.form
  obtain ⟨b, bcap, rfl, _⟩ := hw.form
  replace hd2 := hid hd2
  by_cases hg : goodD d = true
  · rw [hg] at hG
    by_cases ha : isAt n = true
    · have hg0 := hg
      have ha0 := ha
      rw [ha] at hA
      have hgood : goodD d = true ∧ isAt n = true := ⟨hg, ha⟩
      by_cases h32 : t.size = 32
      · have e1 : ((t.size : Int) != 32) = false := by rw [h32]; rfl
        by_cases h200 : 200 ≤ d.writes.length
        · have he : putE d n t = 11 := by unfold putE; rw [if_neg (not_not_intro hgood), if_neg (not_not_intro h32), if_pos h200]
          have hv : putD d n t = d := by unfold putD; rw [he, if_neg (by decide)]
          rw [hv, he]
          clear ha hg hv he hs hw hgood h32
          replace hG := hid hG
          replace hA := hid hA
          go_enter Try.func48, Try.ntmps48
          go_wp2_with (first
            | (go_at_call 20; refine (hG.out _ (hd2.out.below (by repeat (first | exact Below.refl _ _ | with_reducible assumption | (refine allocB ?_ (by first | omega | (simp; done) | (simp; omega)) _) | (refine Below.setCell ?_ (by first | omega | (simp; done) | (simp; omega)) _) | refine Below.drew ?_ | (refine Below.trans ?_ (Below.mono (by with_reducible assumption) (by first | omega | (simp; done) | (simp; omega)))))))).mono ?_; rintro e w1 ⟨rfl, hb1⟩; obtain ⟨hbc, hbf⟩ := bcell hb1; have hbz := hb1.size; try simp only [World.size_alloc, World.size_setCell, World.size_drew] at hbz; have hz0 := Nat.lt_of_lt_of_le (n := w.heap.size) (by omega) hbz; have hz1 := Nat.lt_of_lt_of_le (n := w.heap.size + 1) (by omega) hbz)
            | (go_at_call 53; refine (hA.out _).mono ?_; rintro e w2 ⟨rfl, rfl⟩))
          exact bodyPost_ret (v := .tuple #[.agg #[.slice a d.safe.length cap, .slice b d.writes.length bcap], .int .i64 11]) (by simp [results, Try.results48, go_sem, hbc]) rfl ⟨_, rfl, hd2.out.below (by repeat (first | exact Below.refl _ _ | with_reducible assumption | (refine allocB ?_ (by first | omega | (simp; done) | (simp; omega)) _) | (refine Below.setCell ?_ (by first | omega | (simp; done) | (simp; omega)) _) | refine Below.drew ?_ | (refine Below.trans ?_ (Below.mono (by with_reducible assumption) (by first | omega | (simp; done) | (simp; omega)))))), by repeat (first | exact Below.refl _ _ | with_reducible assumption | (refine allocB ?_ (by first | omega | (simp; done) | (simp; omega)) _) | (refine Below.setCell ?_ (by first | omega | (simp; done) | (simp; omega)) _) | refine Below.drew ?_ | (refine Below.trans ?_ (Below.mono (by with_reducible assumption) (by first | omega | (simp; done) | (simp; omega)))))⟩
        · have he : putE d n t = 0 := by unfold putE; rw [if_neg (not_not_intro hgood), if_neg (not_not_intro h32), if_neg h200]
          have hv : putD d n t = ⟨d.safe, d.writes ++ [⟨n, t⟩]⟩ := by unfold putD; rw [if_pos he]
          rw [hv, he]
          clear ha hg hv he hgood
          exact disk_Put_good d n t _ w hd2.out hg0 ha0 h32 h200
      · have e1 : ((t.size : Int) != 32) = true := bne_iff_ne.2 (by omega)
        have he : putE d n t = 1 := by unfold putE; rw [if_neg (not_not_intro hgood), if_pos h32]
        have hv : putD d n t = d := by unfold putD; rw [he, if_neg (by decide)]
        rw [hv, he]
        clear ha hg hv he hs hw hgood h32
        replace hG := hid hG
        replace hA := hid hA
        go_enter Try.func48, Try.ntmps48
        go_wp2_with (first
          | (go_at_call 20; refine (hG.out _ (hd2.out.below (by repeat (first | exact Below.refl _ _ | with_reducible assumption | (refine allocB ?_ (by first | omega | (simp; done) | (simp; omega)) _) | (refine Below.setCell ?_ (by first | omega | (simp; done) | (simp; omega)) _) | refine Below.drew ?_ | (refine Below.trans ?_ (Below.mono (by with_reducible assumption) (by first | omega | (simp; done) | (simp; omega)))))))).mono ?_; rintro e w1 ⟨rfl, hb1⟩; obtain ⟨hbc, hbf⟩ := bcell hb1; have hbz := hb1.size; try simp only [World.size_alloc, World.size_setCell, World.size_drew] at hbz; have hz0 := Nat.lt_of_lt_of_le (n := w.heap.size) (by omega) hbz; have hz1 := Nat.lt_of_lt_of_le (n := w.heap.size + 1) (by omega) hbz)
          | (go_at_call 53; refine (hA.out _).mono ?_; rintro e w2 ⟨rfl, rfl⟩))
        exact bodyPost_ret (v := .tuple #[.agg #[.slice a d.safe.length cap, .slice b d.writes.length bcap], .int .i64 1]) (by simp [results, Try.results48, go_sem, hbc]) rfl ⟨_, rfl, hd2.out.below (by repeat (first | exact Below.refl _ _ | with_reducible assumption | (refine allocB ?_ (by first | omega | (simp; done) | (simp; omega)) _) | (refine Below.setCell ?_ (by first | omega | (simp; done) | (simp; omega)) _) | refine Below.drew ?_ | (refine Below.trans ?_ (Below.mono (by with_reducible assumption) (by first | omega | (simp; done) | (simp; omega)))))), by repeat (first | exact Below.refl _ _ | with_reducible assumption | (refine allocB ?_ (by first | omega | (simp; done) | (simp; omega)) _) | (refine Below.setCell ?_ (by first | omega | (simp; done) | (simp; omega)) _) | refine Below.drew ?_ | (refine Below.trans ?_ (Below.mono (by with_reducible assumption) (by first | omega | (simp; done) | (simp; omega)))))⟩
    · have he : putE d n t = 2 := by unfold putE; rw [if_pos (fun hh => ha hh.2)]
      have hv : putD d n t = d := by unfold putD; rw [he, if_neg (by decide)]
      rw [hv, he]
      rw [Bool.not_eq_true _ |>.mp ha] at hA
      clear ha hg hv he
      replace hG := hid hG
      replace hA := hid hA
      replace hs := hid hs
      replace hw := hid hw
      go_enter Try.func48, Try.ntmps48
      go_wp2_with (first
        | (go_at_call 20; refine (hG.out _ (hd2.out.below (by repeat (first | exact Below.refl _ _ | with_reducible assumption | (refine allocB ?_ (by first | omega | (simp; done) | (simp; omega)) _) | (refine Below.setCell ?_ (by first | omega | (simp; done) | (simp; omega)) _) | refine Below.drew ?_ | (refine Below.trans ?_ (Below.mono (by with_reducible assumption) (by first | omega | (simp; done) | (simp; omega)))))))).mono ?_; rintro e w1 ⟨rfl, hb1⟩; obtain ⟨hbc, hbf⟩ := bcell hb1; have hbz := hb1.size; try simp only [World.size_alloc, World.size_setCell, World.size_drew] at hbz; have hz0 := Nat.lt_of_lt_of_le (n := w.heap.size) (by omega) hbz; have hz1 := Nat.lt_of_lt_of_le (n := w.heap.size + 1) (by omega) hbz)
        | (go_at_call 53; refine (hA.out _).mono ?_; rintro e w2 ⟨rfl, rfl⟩))
      exact bodyPost_ret (v := .tuple #[.agg #[.slice a d.safe.length cap, .slice b d.writes.length bcap], .int .i64 2]) (by simp [results, Try.results48, go_sem, hbc]) rfl ⟨_, rfl, hd2.out.below (by repeat (first | exact Below.refl _ _ | with_reducible assumption | (refine allocB ?_ (by first | omega | (simp; done) | (simp; omega)) _) | (refine Below.setCell ?_ (by first | omega | (simp; done) | (simp; omega)) _) | refine Below.drew ?_ | (refine Below.trans ?_ (Below.mono (by with_reducible assumption) (by first | omega | (simp; done) | (simp; omega)))))), by repeat (first | exact Below.refl _ _ | with_reducible assumption | (refine allocB ?_ (by first | omega | (simp; done) | (simp; omega)) _) | (refine Below.setCell ?_ (by first | omega | (simp; done) | (simp; omega)) _) | refine Below.drew ?_ | (refine Below.trans ?_ (Below.mono (by with_reducible assumption) (by first | omega | (simp; done) | (simp; omega)))))⟩
  · have he : putE d n t = 2 := by unfold putE; rw [if_pos (fun hh => hg hh.1)]
    have hv : putD d n t = d := by unfold putD; rw [he, if_neg (by decide)]
    rw [hv, he]
    rw [Bool.not_eq_true _ |>.mp hg] at hG
    clear hg hv he hs hw
    replace hG := hid hG
    go_enter Try.func48, Try.ntmps48
    go_wp2_with (go_at_call 20; refine (hG.out _ (hd2.out.below (by repeat (first | exact Below.refl _ _ | with_reducible assumption | (refine allocB ?_ (by first | omega | (simp; done) | (simp; omega)) _) | (refine Below.setCell ?_ (by first | omega | (simp; done) | (simp; omega)) _) | refine Below.drew ?_ | (refine Below.trans ?_ (Below.mono (by with_reducible assumption) (by first | omega | (simp; done) | (simp; omega)))))))).mono ?_; rintro e w1 ⟨rfl, hb1⟩; obtain ⟨hbc, hbf⟩ := bcell hb1; have hbz := hb1.size; try simp only [World.size_alloc, World.size_setCell, World.size_drew] at hbz; have hz0 := Nat.lt_of_lt_of_le (n := w.heap.size) (by omega) hbz; have hz1 := Nat.lt_of_lt_of_le (n := w.heap.size + 1) (by omega) hbz)
    exact bodyPost_ret (v := .tuple #[.agg #[.slice a d.safe.length cap, .slice b d.writes.length bcap], .int .i64 2]) (by simp [results, Try.results48, go_sem, hbc]) rfl ⟨_, rfl, hd2.out.below (by repeat (first | exact Below.refl _ _ | with_reducible assumption | (refine allocB ?_ (by first | omega | (simp; done) | (simp; omega)) _) | (refine Below.setCell ?_ (by first | omega | (simp; done) | (simp; omega)) _) | refine Below.drew ?_ | (refine Below.trans ?_ (Below.mono (by with_reducible assumption) (by first | omega | (simp; done) | (simp; omega)))))), by repeat (first | exact Below.refl _ _ | with_reducible assumption | (refine allocB ?_ (by first | omega | (simp; done) | (simp; omega)) _) | (refine Below.setCell ?_ (by first | omega | (simp; done) | (simp; omega)) _) | refine Below.drew ?_ | (refine Below.trans ?_ (Below.mono (by with_reducible assumption) (by first | omega | (simp; done) | (simp; omega)))))⟩
end Go.Proofs.Ytjhmfljlclajnab

namespace Wb
open Go Go.RowKit
/-- The safe texts with the first k writes laid over. -/
def flushL (s : List ByteArray) (ws : List Wr) : List ByteArray := ws.foldl (fun s x => s.set x.at_.toNat x.text) s
theorem flushL_step (s : List ByteArray) (ws : List Wr) {k : Nat} (hk : k < ws.length) : flushL s (ws.take (k + 1)) = (flushL s (ws.take k)).set ws[k].at_.toNat ws[k].text := by
  unfold flushL; rw [List.take_succ_eq_append_getElem hk, List.foldl_append]; rfl
theorem flushL_len (s : List ByteArray) (ws : List Wr) : (flushL s ws).length = s.length := by
  unfold flushL
  induction ws generalizing s with
  | nil => rfl
  | cons x ws ih => rw [List.foldl_cons, ih]; simp
/-- What stands at each place behind a flush: the last text. -/
theorem flushL_get (s : List ByteArray) (ws : List Wr) (hw : ws.all wrOk = true) (n : Nat) (hn : n < s.length) : (flushL s ws)[n]? = some (lastT s[n] n ws) := by
  induction ws generalizing s with
  | nil => simp [flushL, lastT, hn]
  | cons x ws ih =>
    rw [List.all_cons, Bool.and_eq_true] at hw
    have h0 : 0 ≤ x.at_ := by
      have := hw.1
      simp only [wrOk, Bool.and_eq_true, isAt, decide_eq_true_eq] at this
      exact this.1.1
    have hx := ih (s.set x.at_.toNat x.text) hw.2 (by simpa using hn)
    simp only [flushL, lastT, List.foldl_cons] at hx ⊢
    rw [hx, List.getElem_set]
    by_cases h : x.at_ = n
    · rw [if_pos h, if_pos (by omega)]
    · rw [if_neg h, if_neg (by omega)]
def flushD (d : Dsk) : Dsk := if goodD d = true then ⟨flushL d.safe d.writes, []⟩ else d
def flushE (d : Dsk) : Int := if goodD d = true then 0 else 2
/-- The reference's flush: place by place. -/
theorem flush_ref (s : List ByteArray) (ws : List Wr) (hw : ws.all wrOk = true) : s.mapIdx (fun n x => lastT x n ws) = flushL s ws := by
  refine List.ext_getElem? fun n => ?_
  by_cases hn : n < s.length
  · rw [flushL_get s ws hw n hn]; simp [hn]
  · rw [List.getElem?_eq_none (by simpa using hn), List.getElem?_eq_none (by rw [flushL_len]; omega)]
theorem mapIdx_take {α β : Type} (f : Nat → α → β) (l : List α) {k : Nat} (hk : k < l.length) : (l.mapIdx f).take (k + 1) = (l.mapIdx f).take k ++ [f k l[k]] := by
  rw [List.take_succ_eq_append_getElem (by simpa using hk)]; simp
theorem putE_zero {d : Dsk} {n : Int} {t : ByteArray} (h : putE d n t = 0) : goodD d = true ∧ isAt n = true ∧ t.size = 32 ∧ ¬ 200 ≤ d.writes.length := by
  unfold putE at h
  by_cases h1 : goodD d = true ∧ isAt n = true
  · rw [if_neg (not_not_intro h1)] at h
    by_cases h2 : t.size = 32
    · rw [if_neg (not_not_intro h2)] at h
      by_cases h3 : 200 ≤ d.writes.length
      · rw [if_pos h3] at h; simp at h
      · exact ⟨h1.1, h1.2, h2, h3⟩
    · rw [if_pos h2] at h; simp at h
  · rw [if_pos h1] at h; simp at h
theorem putE_one {d : Dsk} {n : Int} {t : ByteArray} (hg : goodD d = true) (ha : isAt n = true) (h32 : t.size = 32) (h200 : ¬ 200 ≤ d.writes.length) : putE d n t = 0 := by
  unfold putE; rw [if_neg (not_not_intro ⟨hg, ha⟩), if_neg (not_not_intro h32), if_neg h200]
theorem putD_one {d : Dsk} {n : Int} {t : ByteArray} (h : putE d n t = 0) : putD d n t = ⟨d.safe, d.writes ++ [⟨n, t⟩]⟩ := by unfold putD; rw [if_pos h]
theorem putD_same {d : Dsk} {n : Int} {t : ByteArray} (h : putE d n t ≠ 0) : putD d n t = d := by unfold putD; rw [if_neg h]
/-- Behind a write that was taken the disk is good, and the text is read there. -/
theorem put_good {d : Dsk} {n : Int} {t : ByteArray} (h : putE d n t = 0) : goodD (putD d n t) = true := by
  obtain ⟨hg, ha, h32, h200⟩ := putE_zero h
  rw [putD_one h]
  obtain ⟨g1, g2, g3, g4⟩ := (goodD_iff d).1 hg
  refine (goodD_iff _).2 ⟨g1, by simp; omega, g3, ?_⟩
  simp only [List.all_append, g4, List.all_cons, List.all_nil, wrOk, ha, ok32, h32]
  decide
theorem put_read {d : Dsk} {n : Int} {t : ByteArray} (h : putE d n t = 0) : readD (putD d n t) n = t := by
  obtain ⟨hg, ha, h32, h200⟩ := putE_zero h
  unfold readD
  rw [if_pos ⟨put_good h, ha⟩, putD_one h, lastT_step, if_pos rfl]
theorem put_readE {d : Dsk} {n : Int} {t : ByteArray} (h : putE d n t = 0) (m : Int) : readE (putD d n t) m = readE d m := by
  obtain ⟨hg, ha, h32, h200⟩ := putE_zero h
  unfold readE; simp only [put_good h, hg]
theorem put_other {d : Dsk} {n m : Int} {t : ByteArray} (h : putE d n t = 0) (hm : m ≠ n) : readD (putD d n t) m = readD d m := by
  obtain ⟨hg, ha, h32, h200⟩ := putE_zero h
  have hp := put_good h
  unfold readD
  rw [hp, hg, putD_one h]
  simp only [lastT_step, safeAt]
  rw [if_neg (fun hh : n = m => hm hh.symm)]
end Wb

namespace Go.Proofs.Ytjhmfljlclajnab
open Go.RowKit Wb
set_option linter.unusedVariables false
set_option linter.unusedSimpArgs false
set_option maxRecDepth 100000
set_option maxHeartbeats 1000000

theorem disk_Flush (d : Dsk) (v : Value) (w : World) (hd : RDisk w v d) :
    Calls Try.prog 18 #[v] w fun e w' => ∃ v', e = .returned (.tuple #[v', .int .i64 (flushE d)]) ∧ RDisk w' v' (flushD d) ∧ Below w.heap.size w w' := by
  have hG := fun w (hh : RDisk w v d) => disk_Good d v w hh
  have hd2 := hd
  obtain ⟨vs, vw, rfl, hs, hw, n1, n2⟩ := hd
  obtain ⟨a, cap, rfl, ca1, ca2⟩ := hs.form
  obtain ⟨b, bcap, rfl, cb1, cb2⟩ := hw.form
  replace hd2 := hid hd2
  by_cases hg : goodD d = true
  · have he : flushE d = 0 := by unfold flushE; rw [if_pos hg]
    have hv : flushD d = ⟨flushL d.safe d.writes, []⟩ := by unfold flushD; rw [if_pos hg]
    rw [hv, he]
    rw [hg] at hG
    obtain ⟨g1, g2, _, g3⟩ := (goodD_iff d).1 hg
    clear he hv hg
    obtain ⟨safe, writes⟩ := d
    dsimp only at *
    have hC := fun v w (hh : RL strC w v safe) => clone_Strings safe v w hh n1
    have hstep := fun (k : Nat) (hk : k < writes.length) => flushL_step safe writes hk
    have hlen := fun k => flushL_len safe (writes.take k)
    have hwr := fun (k : Nat) (hk : k < writes.length) => List.all_eq_true.1 g3 writes[k] (List.getElem_mem hk)
    replace hG := hid hG
    replace hC := hid hC
    replace hs := hid hs
    replace hw := hid hw
    replace hstep := hid hstep
    replace hlen := hid hlen
    replace hwr := hid hwr
    replace g1 := hid g1
    clear g3
    go_enter Try.func18, Try.ntmps18
    go_wp2_with (first
      | (go_at_call 20; refine (hG.out _ (hd2.out.below (by repeat (first | exact Below.refl _ _ | with_reducible assumption | (refine allocB ?_ (by first | omega | (simp; done) | (simp; omega)) _) | (refine Below.setCell ?_ (by first | omega | (simp; done) | (simp; omega)) _) | refine Below.drew ?_ | (refine Below.trans ?_ (Below.mono (by with_reducible assumption) (by first | omega | (simp; done) | (simp; omega)))))))).mono ?_; rintro e w1 ⟨rfl, hb1⟩; obtain ⟨hbc, hbf⟩ := bcell hb1; have hbz := hb1.size; try simp only [World.size_alloc, World.size_setCell, World.size_drew] at hbz; have hz0 := Nat.lt_of_lt_of_le (n := w.heap.size) (by omega) hbz; have hz1 := Nat.lt_of_lt_of_le (n := w.heap.size + 1) (by omega) hbz)
      | (go_at_call 45; go_loud (refine (hC.out _ _ (hs.out.below (by repeat (first | exact Below.refl _ _ | with_reducible assumption | (refine allocB ?_ (by first | omega | (simp; done) | (simp; omega)) _) | (refine Below.setCell ?_ (by first | omega | (simp; done) | (simp; omega)) _) | refine Below.drew ?_ | (refine Below.trans ?_ (Below.mono (by with_reducible assumption) (by first | omega | (simp; done) | (simp; omega)))))))).mono ?_; rintro e w3 ⟨v3, rfl, hown3, hb3⟩; obtain ⟨a3, cap3, rfl⟩ := hown3.form; have k0 : Blk w3 w.heap.size #[.slice a safe.length cap, .slice b writes.length bcap] 25 := (((Blk.new w _ _).alloc _).step hb1).step hb3; have k1 : Blk w3 (w.heap.size + 1) #[.slice none 0 0, .slice none 0 0] 25 := ((Blk.newAt (w := w.alloc _) (by simp)).step hb1).step hb3; have hnx3 : Below w.heap.size w w3 := (by repeat (first | exact Below.refl _ _ | with_reducible assumption | (refine allocB ?_ (by first | omega | (simp; done) | (simp; omega)) _) | (refine Below.setCell ?_ (by first | omega | (simp; done) | (simp; omega)) _) | refine Below.drew ?_ | (refine Below.trans ?_ (Below.mono (by with_reducible assumption) (by first | omega | (simp; done) | (simp; omega)))))); have lt1 := k1.lt; have lt0 := k0.lt; have c0 := k0.cell 0; have c1 := k0.cell 1; simp only [List.getElem?_toArray, List.getElem?_cons_zero, List.getElem?_cons_succ] at c0 c1; have og := fun g (hg : (Value.slice a3 safe.length cap3).ownBlock = some g) => World.ownsRow.lt hown3 g hg; replace og := hid og; have lz := hb1.size; clear hb1 hb3 hbc hbf)))
    have hz1w : w.heap.size + 1 < w1.heap.size := by (try simp at lz); omega
    have o0 := hown3
    go_loopw [6, 18] (fun _ i wr => ∃ k : Nat, k ≤ writes.length ∧ i = .int .i64 k ∧ Own strC w1.heap.size 9 1 wr (.slice a3 safe.length cap3) (flushL safe (writes.take k)) ∧ Blk wr w.heap.size #[.slice a safe.length cap, .slice b writes.length bcap] 25 ∧ Blk wr (w.heap.size + 1) #[.slice none 0 0, .slice none 0 0] 25 ∧ Blk wr w3.heap.size #[.slice a3 safe.length cap3, .slice none 0 0] 25 ∧ Below w.heap.size w wr) (fun _ i _ => writes.length - (intOf i).toNat)
    case atStart => exact ⟨0, Nat.zero_le _, rfl, o0.alloc _, k0.alloc _, k1.alloc _, Blk.new _ _ _, allocB hnx3 (by omega) _⟩
    case round =>
      obtain ⟨k, hk, rfl, hown, k0, k1, k2, hnx⟩ := hrel
      have lt0 := k0.lt
      have lt1 := k1.lt
      have lt2 := k2.lt
      have c0 := k0.cell 0
      have c1 := k0.cell 1
      have c2 := k1.cell 0
      have c3 := k1.cell 1
      have c4 := k2.cell 0
      have c5 := k2.cell 1
      simp only [List.getElem?_toArray, List.getElem?_cons_zero, List.getElem?_cons_succ] at c0 c1 c2 c3 c4 c5
      by_cases hlt : k < writes.length
      · obtain ⟨b2, off, rfl, d0, d1⟩ := RL.at2 (fun x => .int .i64 x.at_) (fun x => .string x.text) (fun _ => rfl) (hw.out.below hnx) hlt
        have lt3 := World.block_lt_of_cell? _ _ d0
        dsimp only at lt3
        have hst := hstep.out k hlt
        have hwk := hwr.out k hlt
        have hl := hlen.out k
        obtain ⟨⟨p, t⟩, hx⟩ : ∃ x, writes[k] = x := ⟨_, rfl⟩
        rw [hx] at d0 d1 hst hwk
        obtain ⟨m, rfl⟩ : ∃ m : Nat, p = m := ⟨p.toNat, by simp only [wrOk, Bool.and_eq_true, isAt, decide_eq_true_eq] at hwk; omega⟩
        have hm : m < safe.length := by simp only [wrOk, Bool.and_eq_true, isAt, decide_eq_true_eq] at hwk; have := g1.out; omega
        dsimp only at d0 d1
        simp only [Int.toNat_natCast] at hst
        generalize flushL safe (writes.take k) = fl at *
        obtain ⟨g, cap4, hv, hgb, hgl, hgc, hset⟩ := hown.poke strC_flat (k := m) (by omega)
        simp only [Value.slice.injEq] at hv
        obtain ⟨rfl, _, rfl⟩ := hv
        obtain ⟨z0, z1⟩ := hgc 0 (by decide)
        replace hset := hset 0 t (.string t) (by decide) rfl
        rw [← hst, Nat.mul_one, Nat.add_zero] at hset
        simp only [Nat.mul_one, Nat.add_zero, strC, List.getElem?_cons_zero] at z0 z1
        replace hset := hid hset
        have hne := og.out g rfl
        have hm3 : m < fl.length := by omega
        obtain ⟨old, hold⟩ : ∃ y, fl[m] = y := ⟨_, rfl⟩
        rw [hold] at z1
        clear hold hwk hst hx hown hgc hl hm3
        have hm2 : (m : Int) < safe.length := by omega
        go_wp2
        go_roundw
        case rel => exact ⟨k + 1, by omega, by go_num, hset.out.alloc _, (k0.set_other _ _ (by simp; omega)).alloc _, (k1.set_other _ _ (by simp; omega)).alloc _, (k2.set_other _ _ (by simp; omega)).alloc _, allocB (hnx.setCell (by simp; omega) _) (by omega) _⟩
        case measure => simp [intOf]; omega
      · rw [List.take_of_length_le (by omega)] at hown
        have f1 := k1.free 0
        have f2 := k1.free 1
        go_wp2
        have hF : Below w.heap.size w ((wr.setCell ⟨w.heap.size + 1, 0, none⟩ (.slice a3 safe.length cap3)).setCell ⟨w.heap.size + 1, 1, none⟩ (.slice none 0 0)) := (hnx.setCell (by simp) _).setCell (by simp) _
        have hfl := flushL_len safe writes
        obtain ⟨a9, cap9, hv9, _, _⟩ := hown.reads.form
        have ho := (hown.setCell (p := ⟨w.heap.size + 1, 0, none⟩) (by simp; omega) (.slice a3 safe.length cap3)).setCell (p := ⟨w.heap.size + 1, 1, none⟩) (by simp; omega) (.slice none 0 0)
        refine bodyPost_ret (v := .tuple #[.agg #[.slice a3 safe.length cap3, .slice none 0 0], .int .i64 0]) (by simp [results, Try.results18, go_sem, c2, c3]) rfl ⟨_, rfl, ⟨_, _, rfl, ho.reads, RL.nil _ _, by rw [hfl]; exact n1, by simp⟩, hF⟩
  · have he : flushE d = 2 := by unfold flushE; rw [if_neg hg]
    have hv : flushD d = d := by unfold flushD; rw [if_neg hg]
    rw [hv, he]
    rw [Bool.not_eq_true _ |>.mp hg] at hG
    clear hg hv he hs hw
    replace hG := hid hG
    go_enter Try.func18, Try.ntmps18
    go_wp2_with (go_at_call 20; refine (hG.out _ (hd2.out.below (by repeat (first | exact Below.refl _ _ | with_reducible assumption | (refine allocB ?_ (by first | omega | (simp; done) | (simp; omega)) _) | (refine Below.setCell ?_ (by first | omega | (simp; done) | (simp; omega)) _) | refine Below.drew ?_ | (refine Below.trans ?_ (Below.mono (by with_reducible assumption) (by first | omega | (simp; done) | (simp; omega)))))))).mono ?_; rintro e w1 ⟨rfl, hb1⟩; obtain ⟨hbc, hbf⟩ := bcell hb1; have hbz := hb1.size; try simp only [World.size_alloc, World.size_setCell, World.size_drew] at hbz; have hz0 := Nat.lt_of_lt_of_le (n := w.heap.size) (by omega) hbz; have hz1 := Nat.lt_of_lt_of_le (n := w.heap.size + 1) (by omega) hbz)
    exact bodyPost_ret (v := .tuple #[.agg #[.slice a d.safe.length cap, .slice b d.writes.length bcap], .int .i64 2]) (by simp [results, Try.results18, go_sem, hbc]) rfl ⟨_, rfl, hd2.out.below (by repeat (first | exact Below.refl _ _ | with_reducible assumption | (refine allocB ?_ (by first | omega | (simp; done) | (simp; omega)) _) | (refine Below.setCell ?_ (by first | omega | (simp; done) | (simp; omega)) _) | refine Below.drew ?_ | (refine Below.trans ?_ (Below.mono (by with_reducible assumption) (by first | omega | (simp; done) | (simp; omega)))))), by repeat (first | exact Below.refl _ _ | with_reducible assumption | (refine allocB ?_ (by first | omega | (simp; done) | (simp; omega)) _) | (refine Below.setCell ?_ (by first | omega | (simp; done) | (simp; omega)) _) | refine Below.drew ?_ | (refine Below.trans ?_ (Below.mono (by with_reducible assumption) (by first | omega | (simp; done) | (simp; omega)))))⟩
end Go.Proofs.Ytjhmfljlclajnab

namespace Go.Proofs.Ytjhmfljlclajnab
open Go.RowKit Wb
set_option linter.unusedVariables false
set_option linter.unusedSimpArgs false
set_option maxRecDepth 100000
set_option maxHeartbeats 1000000

theorem after_end (s : ByteArray) (n : Int) (ws : List Wr) : ∃ q, (afterL s n ws).length = q + 1 ∧ (afterL s n ws)[q]? = some (lastT s n ws) := by
  have h := after_last s n ws
  rw [List.getLast?_eq_getElem?] at h
  have hl := (List.getElem?_eq_some_iff.1 h).1
  exact ⟨(afterL s n ws).length - 1, by omega, h⟩

end Go.Proofs.Ytjhmfljlclajnab

namespace Go.Proofs.Ytjhmfljlclajnab
open Go.RowKit Wb
set_option linter.unusedVariables false
set_option linter.unusedSimpArgs false
set_option maxRecDepth 100000
set_option maxHeartbeats 1000000

theorem disk_New (w : World) :
    Calls Try.prog 49 #[] w fun e w' => ∃ vs, e = .returned (.agg #[vs, .slice none 0 0]) ∧ Own strC (w.heap.size + 2) 9 1 w' vs (List.replicate 37 (fit ⟨#[]⟩)) ∧ Below w.heap.size w w' := by
  have hFit := fun w => disk_Fit ⟨#[]⟩ w (by decide)
  have hrep := fun k => (List.replicate_succ' (n := k) (a := fit ⟨#[]⟩))
  generalize fit ⟨#[]⟩ = z at *
  replace hFit := hid hFit
  replace hrep := hid hrep
  go_enter Try.func49, Try.ntmps49
  go_wp2
  go_loopw [2] (fun i wr => ∃ k : Nat, k ≤ 37 ∧ i = .int .i64 k ∧ ∃ vo, Own strC (w.heap.size + 2) 9 1 wr vo (List.replicate k z) ∧ Blk wr w.heap.size #[.slice none 0 0, .slice none 0 0] 25 ∧ Blk wr (w.heap.size + 1) #[vo, .slice none 0 0] 25 ∧ Below w.heap.size w wr) (fun i _ => 37 - (intOf i).toNat)
  case atStart => exact ⟨0, by decide, rfl, _, Own.nil _ _ _ _ _, (Blk.new w _ _).alloc _, Blk.newAt (by simp), by repeat (first | exact Below.refl _ _ | with_reducible assumption | (refine allocB ?_ (by first | omega | (simp; done) | (simp; omega)) _) | (refine Below.setCell ?_ (by first | omega | (simp; done) | (simp; omega)) _) | refine Below.drew ?_ | (refine Below.trans ?_ (Below.mono (by with_reducible assumption) (by first | omega | (simp; done) | (simp; omega)))))⟩
  case round =>
    obtain ⟨k, hk, rfl, vo, hown, k0, k1, hnx⟩ := hrel
    obtain ⟨ao, capo, rfl⟩ := hown.form
    have lt0 := k0.lt
    have lt1 := k1.lt
    have c0 := k0.cell 0
    have c1 := k0.cell 1
    have c2 := k1.cell 0
    have c3 := k1.cell 1
    simp only [List.getElem?_toArray, List.getElem?_cons_zero, List.getElem?_cons_succ] at c0 c1 c2 c3
    have hkl : (List.replicate k z).length = k := List.length_replicate
    rw [hkl] at hown k1 c2
    clear hkl
    by_cases hlt : k < 37
    · have hr := hid (hrep.out k)
      have hlen : (List.replicate k z).length = k := List.length_replicate
      generalize List.replicate k z = Mk at *
      go_wp2
      go_region_law (first
        | (refine step_call 50 _ _ (by rfl) (by rfl) #[.string ⟨#[]⟩] (by rfl) ⟨_, _, Try.func50, by kernel_rfl, rfl⟩ (hFit.out _) ?_; rintro e w3 ⟨rfl, hb3⟩; refine ⟨_, rfl, ?_⟩; have k0' := k0.drew.step hb3; have k1' := k1.drew.step hb3; have c2' := k1'.cell 0; simp only [List.getElem?_toArray, List.getElem?_cons_zero, List.getElem?_cons_succ] at c2'; have hown3 := hown.drew.below hb3; have hnx3 := hnx.drew.trans (hb3.mono (by simp; omega)); have lt1' := k1'.lt)
        | go_loud (refine step_push (by rfl) _ _ 22 (by rfl) (w.heap.size + 2) _ 1 16 strC_flat elemStr (hown3.alloc _) (by rfl) z w3.heap.size (Blk.newAt (w := w3) rfl) (by rfl) (by rfl) k hlen (by omega) (by omega) (by (try simp); omega) ?_; intro a4 cap4 w4 hown4 hb4 _; have k4 := (k1'.alloc _).below hb4 (by omega); have f5 := k4.cell 0; simp only [List.getElem?_toArray, List.getElem?_cons_zero, List.getElem?_cons_succ] at f5; have f6 := k4.free 0))
      all_goals
        go_wp2
        go_roundw
        case rel => exact ⟨k + 1, by omega, by go_num, _, by rw [hr.out]; exact hown4.setCell (p := ⟨w.heap.size + 1, 0, none⟩) (by simp) _, ((k0'.alloc _).below hb4 (by omega)).set_other _ _ (by simp), k4.set 0 _, ((allocB hnx3 (by omega) _).trans (hb4.mono (by omega))).setCell (by simp) _⟩
        case measure => simp [intOf]; omega
    · obtain rfl : k = 37 := by omega
      have f1 := k0.free 0
      have f2 := k0.free 1
      go_wp2
      have hF : Below w.heap.size w ((wr.setCell ⟨w.heap.size, 0, none⟩ (.slice ao 37 capo)).setCell ⟨w.heap.size, 1, none⟩ (.slice none 0 0)) := (hnx.setCell (by simp) _).setCell (by simp) _
      have ho := (hown.setCell (p := ⟨w.heap.size, 0, none⟩) (by simp) (.slice ao 37 capo)).setCell (p := ⟨w.heap.size, 1, none⟩) (by simp) (.slice none 0 0)
      exact bodyPost_ret (v := .agg #[.slice ao 37 capo, .slice none 0 0]) (by simp [results, Try.results49, go_sem, c0, c1]) rfl ⟨_, rfl, ho, hF⟩

def fillL (z : ByteArray) (k : Nat) : List ByteArray := List.replicate k z ++ List.replicate (37 - k) ⟨#[]⟩
theorem fillL_set (z : ByteArray) {k : Nat} (hk : k < 37) : (fillL z k).set k z = fillL z (k + 1) := by
  unfold fillL
  rw [List.set_append_right _ _ (by simp), List.length_replicate, Nat.sub_self, show 37 - k = (37 - (k + 1)) + 1 by omega, List.replicate_succ, List.set_cons_zero, List.replicate_succ', List.append_assoc]
  rfl
theorem fillL_len (z : ByteArray) {k : Nat} (hk : k ≤ 37) : (fillL z k).length = 37 := by simp [fillL]; omega

end Go.Proofs.Ytjhmfljlclajnab
