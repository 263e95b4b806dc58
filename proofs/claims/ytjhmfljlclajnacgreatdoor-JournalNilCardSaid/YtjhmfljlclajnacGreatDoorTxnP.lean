/- Transactions as plain data. No program in sight. -/
import Derived.Test.YtjhmfljlclajnacGreatDoorDskP
import Derived.Test.YtjhmfljlclajnacGreatDoorPure
namespace Wb
open Go Go.RowKit
structure Cpy where
  block : Int
  text : ByteArray
instance : Inhabited Cpy := ⟨⟨0, ⟨#[]⟩⟩⟩
def cpyC (x : Cpy) : List Value := [.int .i64 x.block, .string x.text]
theorem cpyC_flat : Flat cpyC 2 := ⟨fun _ => rfl, fun _ u hu => by simp [cpyC] at hu; rcases hu with rfl | rfl <;> rfl, by decide⟩
structure Hnd where
  on : Bool
  left : Int
structure Txn where
  seq : Int
  mt : List Cpy
  dt : List Cpy
  rev : List Int
  h0 : Hnd
  h1 : Hnd
  h2 : Hnd
def hnd0 : Hnd := ⟨false, 0⟩
def txn0 (seq : Int) : Txn := ⟨seq, [], [], [], hnd0, hnd0, hnd0⟩

/-! ### Lists of copies -/
def blks (l : List Cpy) : List Int := l.map (·.block)
/-- Is a copy of block b among them? -/
def hasB (l : List Cpy) (b : Int) : Bool := l.any (fun c => c.block == b)
def inI (l : List Int) (b : Int) : Bool := l.any (fun x => x == b)
def getC (l : List Cpy) (b : Int) : Option ByteArray := (l.find? (fun c => c.block == b)).map (·.text)
def copiesB (l : List Cpy) : Bool := rise (blks l) && l.all (fun c => ok32 c.text)
def hOk (h : Hnd) : Bool := decide (0 ≤ h.left ∧ h.left ≤ 24) && (h.on || decide (h.left = 0))
def seqOk (s : Int) : Bool := decide (1 ≤ s ∧ s ≤ 2147483647)
def apart (t : Txn) : Bool := t.rev.all (fun b => !hasB t.mt b && !hasB t.dt b) && t.mt.all (fun c => !hasB t.dt c.block)
def goodT (t : Txn) : Bool := seqOk t.seq && copiesB t.mt && copiesB t.dt && rise t.rev && apart t && (hOk t.h0 && hOk t.h1 && hOk t.h2)
theorem goodT_iff (t : Txn) : goodT t = true ↔ seqOk t.seq = true ∧ copiesB t.mt = true ∧ copiesB t.dt = true ∧ rise t.rev = true ∧ apart t = true ∧ hOk t.h0 = true ∧ hOk t.h1 = true ∧ hOk t.h2 = true := by
  unfold goodT; simp only [Bool.and_eq_true, and_assoc]

/-- Three cells and seven: a transaction by value. -/
def txnV (t : Txn) (vm vd vr : Value) : Value := .agg #[.int .i64 t.seq, vm, vd, vr, .bool t.h0.on, .int .i64 t.h0.left, .bool t.h1.on, .int .i64 t.h1.left, .bool t.h2.on, .int .i64 t.h2.left]
def RTxn (w : World) (v : Value) (t : Txn) : Prop :=
  ∃ vm vd vr, v = txnV t vm vd vr ∧ RL cpyC w vm t.mt ∧ RL cpyC w vd t.dt ∧ RL intC w vr t.rev ∧ t.mt.length ≤ 5864062014805 ∧ t.dt.length ≤ 5864062014805 ∧ t.rev.length ≤ 17592186044160
theorem RTxn.below {w w' : World} {v : Value} {t : Txn} (h : RTxn w v t) (hb : Below w.heap.size w w') : RTxn w' v t := by
  obtain ⟨vm, vd, vr, hv, h1, h2, h3, h4⟩ := h
  exact ⟨vm, vd, vr, hv, h1.below hb, h2.below hb, h3.below hb, h4⟩

/-! ### Lists of transactions: what their cells hold -/
structure SlV where
  a : Option Addr
  n : Nat
  c : Nat
def SlV.val (x : SlV) : Value := .slice x.a x.n x.c
structure TV where
  t : Txn
  m : SlV
  d : SlV
  r : SlV
def tvC (x : TV) : List Value := [.int .i64 x.t.seq, x.m.val, x.d.val, x.r.val, .bool x.t.h0.on, .int .i64 x.t.h0.left, .bool x.t.h1.on, .int .i64 x.t.h1.left, .bool x.t.h2.on, .int .i64 x.t.h2.left]
theorem tvC_flat : Flat tvC 10 := ⟨fun _ => rfl, fun _ u hu => by simp [tvC, SlV.val] at hu; rcases hu with rfl | rfl | rfl | rfl | rfl | rfl | rfl | rfl | rfl | rfl <;> rfl, by decide⟩
def TV.val (x : TV) : Value := txnV x.t x.m.val x.d.val x.r.val
/-- The cells of x read as the transaction x.t. -/
def TV.ok (w : World) (x : TV) : Prop := RTxn w x.val x.t
theorem RTxn.tv {w : World} {v : Value} {t : Txn} (h : RTxn w v t) : ∃ x : TV, x.t = t ∧ v = x.val ∧ x.ok w := by
  have hh := h
  obtain ⟨vm, vd, vr, rfl, h1, h2, h3, h4⟩ := h
  obtain ⟨a, c, rfl, _⟩ := h1.form
  obtain ⟨a2, c2, rfl, _⟩ := h2.form
  obtain ⟨a3, c3, rfl, _⟩ := h3.form
  exact ⟨⟨t, ⟨a, _, c⟩, ⟨a2, _, c2⟩, ⟨a3, _, c3⟩⟩, rfl, rfl, hh⟩
/-- A slice of transactions, as it is read. -/
def RTxns (w : World) (v : Value) (l : List Txn) : Prop := ∃ xs : List TV, RL tvC w v xs ∧ xs.map (·.t) = l ∧ (∀ x ∈ xs, x.ok w) ∧ xs.length ≤ 1099511627744
theorem RTxns.below {w w' : World} {v : Value} {l : List Txn} (h : RTxns w v l) (hb : Below w.heap.size w w') : RTxns w' v l := by
  obtain ⟨xs, h1, h2, h3, h4⟩ := h
  exact ⟨xs, h1.below hb, h2, fun x hx => (h3 x hx).below hb, h4⟩
theorem RTxns.nil (w : World) : RTxns w (.slice none 0 0) [] := ⟨[], RL.nil _ _, rfl, (fun _ h => absurd h List.not_mem_nil), by decide⟩
theorem RTxns.form {w : World} {v : Value} {l : List Txn} (h : RTxns w v l) : ∃ a c, v = .slice a l.length c ∧ l.length ≤ 1099511627744 := by
  obtain ⟨xs, h1, rfl, h3, h4⟩ := h
  obtain ⟨a, c, hv, _⟩ := h1.form
  exact ⟨a, c, by rw [hv, List.length_map], by rw [List.length_map]; exact h4⟩
theorem RL.at10 {α : Type} {f : α → List Value} {w : World} {a : Option Addr} {n cap : Nat} {l : List α} (g0 g1 g2 g3 g4 g5 g6 g7 g8 g9 : α → Value) (hf : ∀ x, f x = [g0 x, g1 x, g2 x, g3 x, g4 x, g5 x, g6 x, g7 x, g8 x, g9 x]) (h : RL f w (.slice a n cap) l) {k : Nat} (hk : k < l.length) :
    ∃ b off, a = some ⟨b, off, none⟩ ∧ w.cell? ⟨b, off + k * 10, none⟩ = some (g0 l[k]) ∧ w.cell? ⟨b, off + k * 10 + 1, none⟩ = some (g1 l[k]) ∧ w.cell? ⟨b, off + k * 10 + 2, none⟩ = some (g2 l[k]) ∧ w.cell? ⟨b, off + k * 10 + 3, none⟩ = some (g3 l[k]) ∧ w.cell? ⟨b, off + k * 10 + 4, none⟩ = some (g4 l[k]) ∧ w.cell? ⟨b, off + k * 10 + 5, none⟩ = some (g5 l[k]) ∧ w.cell? ⟨b, off + k * 10 + 6, none⟩ = some (g6 l[k]) ∧ w.cell? ⟨b, off + k * 10 + 7, none⟩ = some (g7 l[k]) ∧ w.cell? ⟨b, off + k * 10 + 8, none⟩ = some (g8 l[k]) ∧ w.cell? ⟨b, off + k * 10 + 9, none⟩ = some (g9 l[k]) := by
  obtain ⟨b, off, ha, hc⟩ := RL.at (c := 10) (fun x => by rw [hf]; rfl) h hk (by decide)
  exact ⟨b, off, ha, hc 0 _ (by rw [hf]; rfl), hc 1 _ (by rw [hf]; rfl), hc 2 _ (by rw [hf]; rfl), hc 3 _ (by rw [hf]; rfl), hc 4 _ (by rw [hf]; rfl), hc 5 _ (by rw [hf]; rfl), hc 6 _ (by rw [hf]; rfl), hc 7 _ (by rw [hf]; rfl), hc 8 _ (by rw [hf]; rfl), hc 9 _ (by rw [hf]; rfl)⟩
/-- Element k of a slice of transactions: ten cells that read as it. -/
theorem RTxns.at {w : World} {a : Option Addr} {n cap : Nat} {l : List Txn} (h : RTxns w (.slice a n cap) l) {k : Nat} (hk : k < l.length) :
    ∃ b off vm vd vr, a = some ⟨b, off, none⟩ ∧ RTxn w (txnV l[k] vm vd vr) l[k] ∧ w.cell? ⟨b, off + k * 10, none⟩ = some (.int .i64 l[k].seq) ∧ w.cell? ⟨b, off + k * 10 + 1, none⟩ = some vm ∧ w.cell? ⟨b, off + k * 10 + 2, none⟩ = some vd ∧ w.cell? ⟨b, off + k * 10 + 3, none⟩ = some vr ∧ w.cell? ⟨b, off + k * 10 + 4, none⟩ = some (.bool l[k].h0.on) ∧ w.cell? ⟨b, off + k * 10 + 5, none⟩ = some (.int .i64 l[k].h0.left) ∧ w.cell? ⟨b, off + k * 10 + 6, none⟩ = some (.bool l[k].h1.on) ∧ w.cell? ⟨b, off + k * 10 + 7, none⟩ = some (.int .i64 l[k].h1.left) ∧ w.cell? ⟨b, off + k * 10 + 8, none⟩ = some (.bool l[k].h2.on) ∧ w.cell? ⟨b, off + k * 10 + 9, none⟩ = some (.int .i64 l[k].h2.left) := by
  obtain ⟨xs, h1, rfl, h3, h4⟩ := h
  have hk' : k < xs.length := by simpa using hk
  obtain ⟨b, off, ha, c0, c1, c2, c3, c4, c5, c6, c7, c8, c9⟩ := RL.at10 (fun x : TV => .int .i64 x.t.seq) (fun x => x.m.val) (fun x => x.d.val) (fun x => x.r.val) (fun x => .bool x.t.h0.on) (fun x => .int .i64 x.t.h0.left) (fun x => .bool x.t.h1.on) (fun x => .int .i64 x.t.h1.left) (fun x => .bool x.t.h2.on) (fun x => .int .i64 x.t.h2.left) (fun _ => rfl) h1 hk'
  have hx := h3 xs[k] (List.getElem_mem hk')
  simp only [List.getElem_map]
  exact ⟨b, off, _, _, _, ha, hx, c0, c1, c2, c3, c4, c5, c6, c7, c8, c9⟩

/-! ### Looking for a copy -/
theorem hasB_get (l : List Cpy) (b : Int) : hasB l b = (getC l b).isSome := by
  unfold hasB getC
  rw [Option.isSome_map]
  induction l with
  | nil => rfl
  | cons c l ih =>
    rw [List.any_cons, List.find?_cons]
    cases c.block == b with
    | true => rfl
    | false => simpa using ih
theorem getC_step {l : List Cpy} {b : Int} {k : Nat} (hk : k < l.length) (h : hasB (l.take k) b = false) (hb : l[k].block = b) : getC l b = some l[k].text := by
  have hn : (l.take k).find? (fun c => c.block == b) = none := by
    rw [List.find?_eq_none]
    intro x hx hh
    unfold hasB at h
    rw [List.any_eq_false] at h
    exact h x hx hh
  have e : l.find? (fun c => c.block == b) = some l[k] := by
    conv => lhs; rw [← List.take_append_drop k l]
    rw [List.find?_append, hn, Option.none_or, List.drop_eq_getElem_cons hk, List.find?_cons, beq_iff_eq.2 hb]
  unfold getC
  rw [e]; rfl
theorem hasB_step {l : List Cpy} {b : Int} {k : Nat} (hk : k < l.length) : hasB (l.take (k + 1)) b = (hasB (l.take k) b || (l[k].block == b)) := by
  unfold hasB
  rw [List.take_succ_eq_append_getElem hk, List.any_append]
  simp
theorem hasB_full {l : List Cpy} {b : Int} {k : Nat} (hk : ¬ k < l.length) : hasB (l.take k) b = hasB l b := by rw [List.take_of_length_le (by omega)]
theorem getC_none {l : List Cpy} {b : Int} (h : hasB l b = false) : getC l b = none := by
  rw [hasB_get] at h
  cases hg : getC l b with
  | none => rfl
  | some x => rw [hg] at h; cases h
theorem inI_step {l : List Int} {b : Int} {k : Nat} (hk : k < l.length) : inI (l.take (k + 1)) b = (inI (l.take k) b || (l[k] == b)) := by
  unfold inI
  rw [List.take_succ_eq_append_getElem hk, List.any_append]
  simp
theorem inI_full {l : List Int} {b : Int} {k : Nat} (hk : ¬ k < l.length) : inI (l.take k) b = inI l b := by rw [List.take_of_length_le (by omega)]
theorem inI_hit {l : List Int} {b : Int} {k : Nat} (hk : k < l.length) (hb : l[k] = b) : inI l b = true := by
  unfold inI
  exact List.any_eq_true.2 ⟨_, List.getElem_mem hk, beq_iff_eq.2 hb⟩
theorem hasB_hit {l : List Cpy} {b : Int} {k : Nat} (hk : k < l.length) (hb : l[k].block = b) : hasB l b = true := by
  unfold hasB
  exact List.any_eq_true.2 ⟨_, List.getElem_mem hk, beq_iff_eq.2 hb⟩
end Wb
