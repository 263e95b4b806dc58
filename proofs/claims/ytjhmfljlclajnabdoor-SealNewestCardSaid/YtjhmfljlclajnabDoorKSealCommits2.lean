/- What Commit, Newest and Check compute, as plain lists; steps upon a disk. No program in sight. A store into an owned list. No program in sight. append in a region that draws its order. No program in sight. A call of a Go function as a step of a region that draws its order. No program in sight. Rows of elements of several cells: copy, clear, append onto nothing, insert. No program in sight. What a walk keeps of memory: blocks known whole, readings, and what has not been touched. No program in sight. Rows that a value owns, among the blocks that are known. No program in sight. -/
import Derived.Test.YtjhmfljlclajnabDoorKSealCommits1
import Derived.Test.YtjhmfljlclajnabDoorKSealCommits0
import Derived.Deep.RegionLaw
import Derived.Lib.AppendZerosOnto
import Derived.Lib.Overlaps
import Derived.Lib.SliceRun
import Derived.Laws.IdiomCopy
import Derived.Deep.MidRow
import Derived.Deep.DeepAppendWide
namespace Wb
open Go Go.RowKit
theorem snoc_ind {α : Type} {p : List α → Prop} (h0 : p []) (h1 : ∀ l x, p l → p (l ++ [x])) (l : List α) : p l := by
  rw [← List.reverse_reverse l]
  induction l.reverse with
  | nil => exact h0
  | cons x r ih => rw [List.reverse_cons]; exact h1 _ _ ih
structure Stp where
  kind : Int
  at_ : Int
  text : ByteArray
def stpC (x : Stp) : List Value := [.int .i64 x.kind, .int .i64 x.at_, .string x.text]
theorem stpC_flat : Flat stpC 3 := ⟨fun _ => rfl, fun _ u hu => by simp [stpC] at hu; rcases hu with rfl | rfl | rfl <;> rfl, by decide⟩
def flushS : Stp := ⟨2, 0, ⟨#[]⟩⟩
def wrS (at_ : Int) (s : ByteArray) : Stp := ⟨1, at_, s⟩

/-! ### The blocks of the log of a transaction -/
def tagC' (c : Cpy) : Tag := ⟨c.block, isEsc c.text⟩
def listM (seq : Int) (r : List Int) : Mrk := ⟨3, seq, 0, [], r⟩
def descM (seq : Int) (p : List Cpy) : Mrk := ⟨2, seq, 0, p.map tagC', []⟩
def comM (seq : Int) : Mrk := ⟨4, seq, 0, [], []⟩
def superM (seq a : Int) : Mrk := ⟨1, seq, a, [], []⟩
def partL (seq : Int) (p : List Cpy) : List ByteArray := if p = [] then [] else markS (descM seq p) :: p.map (fun c => escS c.text)
def revL (seq : Int) (r : List Int) : List ByteArray := if r = [] then [] else [markS (listM seq r)]
/-- All blocks but the last. -/
def bodyT (t : Txn) : List ByteArray := revL t.seq t.rev ++ (partL t.seq (t.mt.take 10) ++ partL t.seq (t.mt.drop 10))
def logT (t : Txn) : List ByteArray := bodyT t ++ [markS (comM t.seq)]
def dataS (t : Txn) : List Stp := t.dt.map (fun c => wrS (25 + c.block) c.text) ++ (if t.dt = [] then [] else [flushS])
def comN (t : Txn) : Int := needN t.mt.length t.rev.length
def comE (r : Ring) (t : Txn) : Int := if goodR r = false ∨ goodT t = false ∨ openB t = true then 2 else takeE r (comN t)
def comR (r : Ring) (t : Txn) : Ring := if comE r t = 0 then takeR r (comN t) else r
def atW (p : Int) (s : ByteArray) : Stp := wrS (1 + p) s
def comL (r : Ring) (t : Txn) : List Stp :=
  if comE r t = 0 then
    dataS t ++ (List.zipWith atW (places r.head (bodyT t).length) (bodyT t) ++ ((if bodyT t = [] then [] else [flushS]) ++ [atW ((r.head + (bodyT t).length) % 24) (markS (comM t.seq)), flushS]))
  else []
theorem partL_len (seq : Int) (p : List Cpy) : (partL seq p).length = if p = [] then 0 else p.length + 1 := by
  unfold partL; split <;> simp
theorem bodyT_len {t : Txn} (g : GoodT t) : ((bodyT t).length : Int) + 1 = comN t := by
  obtain ⟨a, _, b⟩ := lens g
  have e : needE t.mt.length t.rev.length = 0 := (need_most g).2
  unfold bodyT comN needN
  rw [if_pos e, List.length_append, List.length_append, partL_len, partL_len]
  unfold revL partsOf
  have h1 : (t.mt.take 10 = []) ↔ t.mt.length = 0 := by rw [← List.length_eq_zero_iff, List.length_take]; omega
  have h2 : (t.mt.drop 10 = []) ↔ t.mt.length ≤ 10 := by rw [← List.length_eq_zero_iff, List.length_drop]; omega
  have h3 : (t.rev = []) ↔ t.rev.length = 0 := List.length_eq_zero_iff.symm
  by_cases c1 : t.mt.length = 0
  · rw [if_pos (h1.2 c1), if_pos (h2.2 (by omega))]
    by_cases c3 : t.rev.length = 0
    · rw [if_pos (h3.2 c3)]; simp; omega
    · rw [if_neg (fun h => c3 (h3.1 h))]; simp; omega
  · rw [if_neg (fun h => c1 (h1.1 h))]
    by_cases c2 : t.mt.length ≤ 10
    · rw [if_pos (h2.2 c2), List.length_take]
      by_cases c3 : t.rev.length = 0
      · rw [if_pos (h3.2 c3)]; simp; omega
      · rw [if_neg (fun h => c3 (h3.1 h))]; simp; omega
    · rw [if_neg (fun h => c2 (h2.1 h)), List.length_take, List.length_drop]
      by_cases c3 : t.rev.length = 0
      · rw [if_pos (h3.2 c3)]; simp; omega
      · rw [if_neg (fun h => c3 (h3.1 h))]; simp; omega

/-! ### What goes home -/
def goS (c : Cpy) : Stp := wrS (25 + c.block) c.text
def homeS (l : List Cpy) : List Stp := l.map (fun c => wrS (25 + c.block) c.text) ++ (if l = [] then [] else [flushS])
def cpyOk (c : Cpy) : Bool := isBlk c.block && ok32 c.text
def checkE (l : List Cpy) (a seq : Int) : Int := if markE (superM seq a) ≠ 0 then markE (superM seq a) else if l.all cpyOk = true then 0 else 1
def checkL (l : List Cpy) (a seq : Int) : List Stp := if checkE l a seq = 0 then homeS l ++ [wrS 0 (markS (superM seq a)), flushS] else []

/-! ### Steps upon a disk -/
def stepD (d : Dsk) (s : Stp) : Dsk := if s.kind = 2 then flushD d else putD d s.at_ s.text
def stepE (d : Dsk) (s : Stp) : Int := if s.kind = 2 then flushE d else putE d s.at_ s.text
def runD (d : Dsk) (l : List Stp) : Dsk := l.foldl stepD d
theorem runD_nil (d : Dsk) : runD d [] = d := rfl
theorem runD_cons (d : Dsk) (s : Stp) (l : List Stp) : runD d (s :: l) = runD (stepD d s) l := rfl
theorem runD_append (d : Dsk) (l m : List Stp) : runD d (l ++ m) = runD (runD d l) m := by simp [runD]

/-! ### The newest copy of a block -/
/-- Going backward: the last transaction to name it says. -/
theorem newestB_back (l : List Txn) (t : Txn) (b : Int) : newestB (l ++ [t]) b = match getC t.mt b with | some s => some s | none => if inI t.rev b then none else newestB l b := newestB_snoc l t b
theorem newest_blk {l : List Txn} (hg : ∀ t ∈ l, goodT t = true) {b : Int} (hb : isBlk b = false) : newestB l b = none := by
  revert hg
  refine snoc_ind (p := fun l => (∀ t ∈ l, goodT t = true) → newestB l b = none) (fun _ => rfl) (fun l t ih hg => ?_) l
  · rw [newestB_back, ih (fun x hx => hg x (by simp [hx]))]
    have g := goodT_of.1 (hg t (by simp))
    have h1 : getC t.mt b = none := by
      cases h : getC t.mt b with
      | none => rfl
      | some s => rw [(getC_blk g.mt h).1] at hb; cases hb
    rw [h1]; simp
theorem newest_size {l : List Txn} (hg : ∀ t ∈ l, goodT t = true) {b : Int} {s : ByteArray} (h : newestB l b = some s) : s.size = 32 := by
  revert hg h
  refine snoc_ind (p := fun l => (∀ t ∈ l, goodT t = true) → newestB l b = some s → s.size = 32) (fun _ h => by cases h) (fun l t ih hg h => ?_) l
  · rw [newestB_back] at h
    have g := goodT_of.1 (hg t (by simp))
    cases h1 : getC t.mt b with
    | some x =>
      rw [h1] at h
      simp only [Option.some.injEq] at h
      subst h
      exact (getC_blk g.mt h1).2
    | none =>
      rw [h1] at h
      simp only at h
      split at h
      · cases h
      · exact ih (fun x hx => hg x (by simp [hx])) h
theorem newestL_copies {l : List Txn} (hg : ∀ t ∈ l, goodT t = true) : copiesB (newestL l) = true :=
  viewL_copies fun _ _ _ ht => newest_size hg ht
theorem newestL_get {l : List Txn} (hg : ∀ t ∈ l, goodT t = true) (b : Int) : getC (newestL l) b = newestB l b := by
  by_cases hb : isBlk b = true
  · have := of_decide_eq_true hb
    exact getC_viewL this.1 this.2
  · have hb : isBlk b = false := by simpa using hb
    rw [newest_blk hg hb]
    cases h : getC (newestL l) b with
    | none => rfl
    | some s => rw [(getC_blk (newestL_copies hg) h).1] at hb; cases hb
end Wb

namespace Wb
open Go Go.RowKit
theorem flat_set {α : Type} {f : α → List Value} {c : Nat} (hf : ∀ x, (f x).length = c) : ∀ (l : List α) (k : Nat) (hk : k < l.length) (y : α) (i : Nat) (u : Value), i < c → f y = (f l[k]).set i u → (l.set k y).flatMap f = (l.flatMap f).set (k * c + i) u
  | [], k, hk, _, _, _, _, _ => by simp at hk
  | x :: l, 0, _, y, i, u, hi, hy => by
    simp only [List.getElem_cons_zero] at hy
    rw [List.set_cons_zero, List.flatMap_cons, List.flatMap_cons, hy, Nat.zero_mul, Nat.zero_add, List.set_append_left _ _ (by rw [hf]; exact hi)]
  | x :: l, k + 1, hk, y, i, u, hi, hy => by
    rw [List.set_cons_succ, List.flatMap_cons, List.flatMap_cons, flat_set hf l k (by simpa using hk) y i u hi (by simpa using hy), List.set_append_right _ _ (by rw [hf, Nat.succ_mul]; omega)]
    congr 2
    rw [hf, Nat.succ_mul]; omega
theorem Own.poke {α : Type} {f : α → List Value} {base : Nat} {e : TypeId} {c : Nat} (hF : Flat f c) {w : World} {v : Value} {l : List α} (h : Own f base e c w v l) {k : Nat} (hk : k < l.length) :
    ∃ g cap, v = .slice (some ⟨g, 0, none⟩) l.length cap ∧ base ≤ g ∧ g < w.heap.size ∧ (∀ i, i < c → w.frozen? ⟨g, k * c + i, none⟩ = false ∧ w.cell? ⟨g, k * c + i, none⟩ = (f l[k])[i]?) ∧
      ∀ i y u, i < c → f y = (f l[k]).set i u → Own f base e c (w.setCell ⟨g, k * c + i, none⟩ u) v (l.set k y) := by
  have hr := h.reads
  obtain ⟨h1, h2⟩ := h
  rcases h2 with ⟨rfl, h0⟩ | ⟨g, cap, cur, rfl, hb, hg, hn, hc, hs, ht⟩
  · rw [h0] at h1
    have hl := flat_len hF.len l
    rw [h0] at hk
    omega
  · refine ⟨g, cap, rfl, hb, (Array.getElem?_eq_some_iff.1 hg).1, fun i hi => ⟨Blk.free (cs := cur) hg _, ?_⟩, fun i y u hi hy => ?_⟩
    · have hlt : i < (f l[k]).length := by rw [hF.len]; exact hi
      have := flat_get hF.len l k l[k] (by simp [hk]) i (f l[k])[i] (by simp [hlt])
      rw [← ht, List.getElem?_take] at this
      split at this
      · rw [Blk.cell (cs := cur) hg, List.getElem?_eq_getElem hlt]; simpa using this
      · simp at this
    · have hb2 := Blk.set (cs := cur) hg (k * c + i) u
      refine ⟨flat_len hF.len _, .inr ⟨g, cap, cur.setIfInBounds (k * c + i) u, by simp, hb, hb2, by simpa using hn, hc, by simpa using hs, ?_⟩⟩
      rw [flat_set hF.len l k hk y i u hi hy, ← ht]
      simp only [List.length_set, Array.toList_setIfInBounds]
      rw [List.take_set]
end Wb

namespace Wb
open Go Go.RowKit
theorem step_app {α : Type} {f : α → List Value} {P : Program} {ops : Array Oper} {o : Oper} {a : Act} {w : World} {K : Act → World → Prop} {Q : Exit → Act → World → Prop} {E : Prop}
    (hg : o.guard = none) (s x : Operand) (t : TypeId) (ho : o.op = .call { callee := .builtin .append, args := #[s, x], argTypes := #[t, t] })
    (base : Nat) (e : TypeId) (c bytes : Nat) (hF : Flat f c) (hT : Elem P t e c bytes) {v : Value} {l : List α} (hown : Own f base e c w v l) (hs : a.eval s = v)
    {vx : Value} (l2 : List α) (hsrc : RL f w vx l2) (hx : a.eval x = vx) (hroom : (l.length + l2.length) * bytes ≤ 140737488355328) (h63 : l.length + l2.length ≤ maxLen) (hbase : base ≤ w.heap.size)
    (hK : ∀ v' w', Own f base e c w' v' (l ++ l2) → Below base w w' → w.grownBy w' v.ownBlock → K (a.put o.dst v') w') :
    if Region.wanted o (yielded ops a.tmps) = true then Oper.wp P o a w K Q else E := by
  have hw : Region.wanted o (yielded ops a.tmps) = true := by simp [Region.wanted, hg]
  rw [if_pos hw]
  obtain ⟨v', w', hr, r1, r2⟩ := run_app (P := P) w base t o.type e c bytes hF hT v l hown vx l2 hsrc hroom h63 hbase
  have hlt := World.ownsRow.lt hown
  unfold Oper.wp execOp
  simp only [ho, resolve, invoke, builtin, Sem.run_bind, Sem.run_pure, Result.andThen_ok, List.map_toArray, List.map_cons, List.map_nil, hs, hx, hr]
  exact hK _ _ r1 ((Below.refl base w).grown r2 hbase (fun k hk => (hlt k hk).1)) r2
end Wb

namespace Wb
open Go Go.RowKit
theorem run_enter {P : Program} {f : FuncId} {fn : Func} {c : Code} (hf : P.funcs[f]? = some fn) (hname : (fn.name == "runtime.NumGoroutine") = false) (hb : fn.body = some c) (args : Array Value) (w : World) :
    (callFunc f args).run P w = .ok (.enter f args) w := by
  have h1 : fn.name ≠ "runtime.NumGoroutine" := by simpa using hname
  simp [callFunc, hf, h1, hb]
theorem step_call {P : Program} {ops : Array Oper} {o : Oper} {a : Act} {w : World} {K : Act → World → Prop} {Q : Exit → Act → World → Prop} {E : Prop} (f : FuncId) (xs : List Operand) (ts : Array TypeId)
    (hg : o.guard = none) (ho : o.op = .call { callee := .value (.func f), args := xs.toArray, argTypes := ts }) (args : Array Value) (ha : (xs.map a.eval).toArray = args)
    (hb : ∃ fn c, P.funcs[f]? = some fn ∧ (fn.name == "runtime.NumGoroutine") = false ∧ fn.body = some c) {R : Ending → World → Prop}
    (h : Calls P f args w R) (hK : ∀ e w', R e w' → ∃ v, e = .returned v ∧ K (a.put o.dst v) w') :
    if Region.wanted o (yielded ops a.tmps) = true then Oper.wp P o a w K Q else E := by
  have hw : Region.wanted o (yielded ops a.tmps) = true := by simp [Region.wanted, hg]
  rw [if_pos hw]
  subst ha
  obtain ⟨fn, c, h1, h2, h3⟩ := hb
  have hr : (execOp a.eval o).run P w = .ok (.enter f (xs.map a.eval).toArray) w := by
    unfold execOp
    simp [ho, resolve, invoke, Deferred.ofValue, Act.eval, run_enter h1 h2 h3]
  unfold Oper.wp
  rw [hr, Oper.upon_enter]
  exact h.mono fun e w' hr => by obtain ⟨v, rfl, hk⟩ := hK e w' hr; exact hk
/-- A block that is known whole reads as a list. -/
theorem RL.ofBlk {α : Type} {f : α → List Value} {w : World} {g : Nat} {e : TypeId} (ys : List α) (hb : Blk w g (ys.flatMap f).toArray e) (hn : ys.length ≤ maxLen) : RL f w (.slice (some ⟨g, 0, none⟩) ys.length ys.length) ys := by
  refine ⟨_, _, rfl, Nat.le_refl _, hn, .inr ⟨_, _, rfl, fun j u hj => ?_⟩⟩
  rw [Nat.zero_add, hb.cell]
  simpa using hj
theorem len1 {α : Type} (l : List α) (x : α) : (l ++ [x]).length = l.length + 1 := by simp
/-- 'append(s, y)' in a region that draws: s owned, y in a row of its own. -/
theorem step_push {α : Type} {f : α → List Value} {P : Program} {ops : Array Oper} {o : Oper} {a : Act} {w : World} {K : Act → World → Prop} {Q : Exit → Act → World → Prop} {E : Prop}
    (hg : o.guard = none) (s x : Operand) (t : TypeId) (ho : o.op = .call { callee := .builtin .append, args := #[s, x], argTypes := #[t, t] })
    (base : Nat) (e : TypeId) (c bytes : Nat) (hF : Flat f c) (hT : Elem P t e c bytes) {v : Value} {l : List α} (hown : Own f base e c w v l) (hs : a.eval s = v)
    (y : α) (g : Nat) {cs : Array Value} (hrow : Blk w g cs e) (hcs : (f y).toArray = cs) (hx : a.eval x = .slice (some ⟨g, 0, none⟩) 1 1) (n : Nat) (hn : l.length = n) (hroom : (n + 1) * bytes ≤ 140737488355328) (h63 : n + 1 ≤ 9223372036854775807) (hbase : base ≤ w.heap.size)
    (hK : ∀ a' cap' w', Own f base e c w' (.slice a' (n + 1) cap') (l ++ [y]) → Below base w w' → w.grownBy w' v.ownBlock → K (a.put o.dst (.slice a' (n + 1) cap')) w') :
    if Region.wanted o (yielded ops a.tmps) = true then Oper.wp P o a w K Q else E := by
  subst hcs hn
  refine step_app hg s x t ho base e c bytes hF hT hown hs [y] (RL.ofBlk (e := e) [y] (by simpa using hrow) (by show 1 ≤ maxLen; decide)) hx hroom (by unfold maxLen; simpa using h63) hbase fun v' w' h1 h2 h3 => ?_
  obtain ⟨a', cap', rfl⟩ := h1.form
  rw [len1] at h1
  have := hK a' cap' w' h1 h2 h3
  rw [len1]
  exact this
/-- 'append(s, y)' in a plain list of operations, the new value written out. -/
theorem wpList_push1 {α : Type} {f : α → List Value} {P : Program} {w : World} {ops : Array Oper} {rest : List Oper} {o : Oper} {a : Act} {Q : Exit → Act → World → Prop} {cs : Array Value} {fr : Nat × Nat} {g : Nat} (hgd : o.guard = none) (s x : Operand) (t : TypeId)
    (ho : o.op = .call { callee := .builtin .append, args := #[s, x], argTypes := #[t, t] })
    (base : Nat) (e : TypeId) (c bytes : Nat) (hF : Flat f c) (hT : Elem P t e c bytes) {v : Value} {l : List α} (hown : Own f base e c w v l) (hs : a.eval s = v)
    (y : α) (hcs : (f y).toArray = cs) (hx : a.eval x = .slice (some ⟨g, 0, none⟩) 1 1) (n : Nat) (hn : l.length = n) (hroom : (n + 1) * bytes ≤ 140737488355328) (h63 : n + 1 ≤ 9223372036854775807) (hbase : base ≤ w.heap.size)
    (h : ∀ a' cap' w', Own f base e c w' (.slice a' (n + 1) cap') (l ++ [y]) → Below base w w' → w.grownBy w' v.ownBlock → wpList P ops Q rest (a.put o.dst (.slice a' (n + 1) cap')) w') (hg : g = w.heap.size := by first | rfl | (simp; done)) : wpList P ops Q (o :: rest) a (w.alloc (.cells cs e fr)) := by
  subst hn
  refine wpList_push hgd s x t ho base e c bytes hF hT hown hs y hcs hx hroom (by unfold maxLen; exact h63) hbase (fun v' w' h1 h2 h3 => ?_) hg
  obtain ⟨a', cap', rfl⟩ := h1.form
  rw [len1] at h1 ⊢
  exact h a' cap' w' h1 h2 h3
theorem own_new {α : Type} {f : α → List Value} {base : Nat} {e : TypeId} {c : Nat} {w : World} {v : Value} {l : List α} (h : Own f base e c w v l) (g : Nat) (hg : w.heap.size ≤ g) : some g ≠ v.ownBlock := fun hh => by
  have := (World.ownsRow.lt h g hh.symm).2
  omega
theorem Own.setOther {α : Type} {f : α → List Value} {base : Nat} {e : TypeId} {c : Nat} {w : World} {v : Value} {l : List α} (h : Own f base e c w v l) (p : Addr) (hne : ∀ g, v.ownBlock = some g → g ≠ p.block) (u : Value) : Own f base e c (w.setCell p u) v l := by
  obtain ⟨h1, h2⟩ := h
  refine ⟨h1, h2.imp id fun ⟨g, cap, cur, a, b, hg, r⟩ => ⟨g, cap, cur, a, b, ?_, r⟩⟩
  rw [Below.heap_setCell w p u g (hne g (by rw [a]; rfl))]; exact hg
/-- A store into a block of another type. -/
theorem Own.setBlk {α : Type} {f : α → List Value} {base : Nat} {e : TypeId} {c : Nat} {w : World} {v : Value} {l : List α} (h : Own f base e c w v l) {b : Nat} {cs : Array Value} {t : TypeId} (hb : Blk w b cs t) (hne : e ≠ t) (i : Nat) (u : Value) : Own f base e c (w.setCell ⟨b, i, none⟩ u) v l := by
  obtain ⟨h1, h2⟩ := h
  refine ⟨h1, h2.imp id fun ⟨g, cap, cur, a, b', hg, r⟩ => ⟨g, cap, cur, a, b', ?_, r⟩⟩
  have hgb : g ≠ b := fun hh => by
    subst hh
    unfold Blk at hb
    rw [hg] at hb
    simp only [Option.some.injEq, Obj.cells.injEq] at hb
    exact hne hb.2.1
  rw [Below.heap_setCell w ⟨b, i, none⟩ u g hgb]; exact hg
/-- One step more, where only new blocks are written. -/
theorem bgo {a b c : World} (h : Below a.heap.size a b) (h2 : Below b.heap.size b c) : Below a.heap.size a c := h.trans (h2.mono h.size)
theorem bal {a b : World} (h : Below a.heap.size a b) (o : Obj) : Below a.heap.size a (b.alloc o) := h.alloc h.size o
theorem b0 (a : World) : Below a.heap.size a a := Below.refl _ _
/-- What a region that only lays new blocks holds on to. -/
theorem held0 (w : World) : Below w.heap.size w w.drew ∧ ∀ b o, b < w.heap.size → w.drew.cell? ⟨b, o, none⟩ = w.cell? ⟨b, o, none⟩ := ⟨(b0 w).drew, fun _ _ _ => rfl⟩
theorem heldB {a b c : World} (h : Below a.heap.size a b ∧ ∀ k o, k < a.heap.size → b.cell? ⟨k, o, none⟩ = a.cell? ⟨k, o, none⟩) (hb : Below b.heap.size b c) : Below a.heap.size a c ∧ ∀ k o, k < a.heap.size → c.cell? ⟨k, o, none⟩ = a.cell? ⟨k, o, none⟩ :=
  ⟨bgo h.1 hb, fun k o hk => (bgo h.1 hb).cell (p := ⟨k, o, none⟩) hk⟩
theorem heldA {a b : World} (h : Below a.heap.size a b ∧ ∀ k o, k < a.heap.size → b.cell? ⟨k, o, none⟩ = a.cell? ⟨k, o, none⟩) (x : Obj) : Below a.heap.size a (b.alloc x) ∧ ∀ k o, k < a.heap.size → (b.alloc x).cell? ⟨k, o, none⟩ = a.cell? ⟨k, o, none⟩ :=
  ⟨bal h.1 x, fun k o hk => (bal h.1 x).cell (p := ⟨k, o, none⟩) hk⟩
theorem Own.drew {α : Type} {f : α → List Value} {base : Nat} {e : TypeId} {c : Nat} {w : World} {v : Value} {l : List α} (h : Own f base e c w v l) : Own f base e c w.drew v l := h
theorem RL.drew {α : Type} {f : α → List Value} {w : World} {v : Value} {l : List α} (h : RL f w v l) : RL f w.drew v l := h
end Wb

namespace Wb
open Go Go.RowKit
set_option linter.unusedVariables false
set_option linter.unusedSimpArgs false
section
variable {P : Program}
/-- copy of elements of c cells. -/
theorem run_copy_c (w : World) (dT sT ty elem : TypeId) (c : Nat) (b o dLen dCap : Nat) (a : Addr) (sLen sCap : Nat) (cs : List Value)
    (hu : P.underlying dT = some (.slice elem)) (hs : (P.info? elem).map (·.size) = some c) (hn : cs.length = Nat.min sLen dLen * c)
    (hsrc : ∀ j v, cs[j]? = some v → w.cell? (a.add j) = some v) (hc : ∀ j, j < cs.length → (w.cell? ⟨b, o + j, none⟩).isSome = true) (hf : ∀ j, j < cs.length → w.frozen? ⟨b, o + j, none⟩ = false) (h1 : ∀ v ∈ cs, v.oneCell' = true) :
    (Builtin.copy_ #[dT, sT] ty #[.slice (some ⟨b, o, none⟩) dLen dCap, .slice (some a) sLen sCap]).run P w = .ok (goInt (Nat.min sLen dLen : Nat)) (w.setCells b o cs) := by
  have hl := run_loadCells_list (P := P) w a cs hsrc
  have hst := run_storeCells_cells (P := P) b o cs 0 w (by simpa using hc) (by simpa using hf) h1
  rw [Nat.add_zero] at hst
  cases hq : P.info? elem with
  | none => simp [hq] at hs
  | some i =>
    have hi : i.size = c := by simpa [hq] using hs
    simp [Builtin.copy_, run_underlying hu, Builtin.lenOf, Builtin.firstCells, Go.sizeOf, typeInfo, hq, hi, ← hn, hl, hst]
/-- clear of elements of c cells: the cells zs. -/
theorem run_clear_c (w : World) (t e ty : TypeId) (z : Value) (ht : P.underlying t = some (.slice e)) (hv : ∀ w, (zeroValue e).run P w = .ok z w) (h1 : ∀ u ∈ z.cells, u.oneCell' = true) (h0 : 0 < z.cells.size) (b o n c : Nat) (hn : 0 < n)
    (hc : ∀ j, j < n * z.cells.size → (w.cell? ⟨b, o + j, none⟩).isSome = true) (hf : ∀ j, j < n * z.cells.size → w.frozen? ⟨b, o + j, none⟩ = false) :
    (Builtin.clear_ #[t] ty #[.slice (some ⟨b, o, none⟩) n c]).run P w = .ok (.tuple #[]) (w.setCells b o (Builtin.zeroCells z.cells n).toList) := by
  have hl : (Builtin.zeroCells z.cells n).toList.length = n * z.cells.size := by rw [Array.length_toList, size_zeroCells]
  have hst := run_storeCells_cells (P := P) b o (Builtin.zeroCells z.cells n).toList 0 w (by rw [hl]; simpa using hc) (by rw [hl]; simpa using hf) (by
    intro v hv'
    simp only [Builtin.zeroCells, Array.toList_map, List.mem_map] at hv'
    obtain ⟨i, _, rfl⟩ := hv'
    have hlt : i % z.cells.size < z.cells.size := Nat.mod_lt _ h0
    rw [getElem!_pos z.cells _ hlt]
    exact h1 _ (Array.getElem_mem hlt))
  simp only [Nat.add_zero] at hst
  obtain ⟨m, rfl⟩ : ∃ m, n = m + 1 := ⟨n - 1, by omega⟩
  simp [Builtin.clear_, run_underlying ht, hv, hst]
end
theorem Blk.sets {t : TypeId} {b : Nat} : ∀ (vs : List Value) (o : Nat) (w : World) (cur : Array Value), Blk w b cur t → o + vs.length ≤ cur.size → Blk (w.setCells b o vs) b (cur.toList.take o ++ vs ++ cur.toList.drop (o + vs.length)).toArray t
  | [], o, w, cur, h, _ => by simpa [World.setCells] using h
  | v :: r, o, w, cur, h, hl => by
    have h2 := Blk.sets r (o + 1) (w.setCell ⟨b, o, none⟩ v) _ (h.set o v) (by simp at hl ⊢; omega)
    have e := list_seg_step cur.toList o v r (by simp at hl ⊢; omega)
    rw [World.setCells]
    rw [Array.toList_setIfInBounds] at h2
    rw [e] at h2
    exact h2
theorem Below.sets {B : Nat} {w : World} (b : Nat) (hb : B ≤ b) : ∀ (vs : List Value) (o : Nat) (w' : World), Below B w w' → Below B w (w'.setCells b o vs)
  | [], _, _, h => h
  | v :: r, o, w', h => Below.sets b hb r (o + 1) _ (h.setCell hb v)
theorem Blk.sets_other {t : TypeId} {b g : Nat} {cur : Array Value} (hne : g ≠ b) : ∀ (vs : List Value) (o : Nat) (w : World), Blk w g cur t → Blk (w.setCells b o vs) g cur t
  | [], _, _, h => h
  | v :: r, o, w, h => Blk.sets_other hne r (o + 1) _ (h.set_other _ v hne)
theorem size_sets (b : Nat) : ∀ (vs : List Value) (o : Nat) (w : World), (w.setCells b o vs).heap.size = w.heap.size
  | [], _, _ => rfl
  | v :: r, o, w => by rw [World.setCells, size_sets b r]; simp
/-- Two pieces laid side by side. -/
theorem seg2 {α : Type} (L : List α) (a : Nat) (X D : List α) (h : a + X.length + D.length ≤ L.length) :
    (L.take (a + X.length) ++ D ++ L.drop (a + X.length + D.length)).take a ++ X ++ (L.take (a + X.length) ++ D ++ L.drop (a + X.length + D.length)).drop (a + X.length) = L.take a ++ X ++ D ++ L.drop (a + X.length + D.length) := by
  have h1 : (L.take (a + X.length)).length = a + X.length := by rw [List.length_take]; omega
  rw [List.append_assoc (L.take (a + X.length)), List.take_append_of_le_length (by omega), List.take_take, Nat.min_eq_left (by omega), List.drop_append_of_le_length (by omega), List.drop_of_length_le (by omega)]
  simp
theorem seg3 {α : Type} (L : List α) (a : Nat) (X D : List α) (h : a + X.length + D.length ≤ L.length) :
    (L.take a ++ X ++ L.drop (a + X.length)).take (a + X.length) ++ D ++ (L.take a ++ X ++ L.drop (a + X.length)).drop (a + X.length + D.length) = L.take a ++ X ++ D ++ L.drop (a + X.length + D.length) := by
  have h1 : (L.take a ++ X).length = a + X.length := by rw [List.length_append, List.length_take]; omega
  rw [List.take_append_of_le_length (by omega), List.take_of_length_le (by omega)]
  have h2 : (L.take a ++ X ++ L.drop (a + X.length)).drop (a + X.length + D.length) = L.drop (a + X.length + D.length) := by
    rw [List.drop_append, List.drop_of_length_le (by omega), List.nil_append, h1, List.drop_drop]
    congr 1
    omega
  rw [h2]
section
variable {α : Type} {f : α → List Value} {base : Nat} {e : TypeId} {c : Nat} {w w' : World} {v : Value} {l : List α}
theorem Own.ofRow {g cap : Nat} {cur : Array Value} (hF : Flat f c) (hb : base ≤ g) (hk : Blk w g cur e) (hn : l.length ≤ cap) (hc : cap ≤ maxLen) (hs : cur.size = cap * c) (ht : cur.toList.take (l.length * c) = l.flatMap f) : Own f base e c w (.slice (some ⟨g, 0, none⟩) l.length cap) l :=
  ⟨flat_len hF.len l, .inr ⟨g, cap, cur, rfl, hb, hk, hn, hc, hs, ht⟩⟩
theorem Own.row (h : Own f base e c w v l) (h0 : 0 < l.length) : ∃ g cap cur, v = .slice (some ⟨g, 0, none⟩) l.length cap ∧ base ≤ g ∧ Blk w g cur e ∧ l.length ≤ cap ∧ cap ≤ maxLen ∧ cur.size = cap * c ∧ cur.toList.take (l.length * c) = l.flatMap f := by
  obtain ⟨h1, h2⟩ := h
  rcases h2 with ⟨rfl, h3⟩ | ⟨g, cap, cur, rfl, hb, hg, hn, hc, hs, ht⟩
  · omega
  · exact ⟨g, cap, cur, rfl, hb, hg, hn, hc, hs, ht⟩
/-- A list that is owned, or nothing, wherever it lies. -/
def OwnE (f : α → List Value) (base : Nat) (e : TypeId) (c : Nat) (w : World) (v : Value) (l : List α) : Prop := Own f base e c w v l ∨ (l = [] ∧ ∃ a, v = .slice a 0 0)
theorem OwnE.reads (h : OwnE f base e c w v l) : RL f w v l := by
  rcases h with h | ⟨rfl, a, rfl⟩
  · exact h.reads
  · exact ⟨a, 0, rfl, Nat.le_refl _, by unfold maxLen; omega, .inl rfl⟩
theorem OwnE.below (h : OwnE f base e c w v l) (hb : Below w.heap.size w w') : OwnE f base e c w' v l := h.imp (fun h => h.below hb) id
theorem OwnE.mono (h : OwnE f base e c w v l) {b2 : Nat} (hb : b2 ≤ base) : OwnE f b2 e c w v l := h.imp (fun h => h.mono hb) id
theorem OwnE.setCell (h : OwnE f base e c w v l) {p : Addr} (hp : p.block < base) (u : Value) : OwnE f base e c (w.setCell p u) v l := h.imp (fun h => h.setCell hp u) id
theorem OwnE.form (h : OwnE f base e c w v l) : ∃ a cap, v = .slice a l.length cap := by
  obtain ⟨a, cap, hv, _, _⟩ := h.reads.form
  exact ⟨a, cap, hv⟩
theorem OwnE.row (h : OwnE f base e c w v l) (h0 : 0 < l.length) : Own f base e c w v l := by
  rcases h with h | ⟨rfl, _⟩
  · exact h
  · simp at h0
theorem Own.belowGrown {v : Value} (h : Own f base e c w v l) (hbase : base ≤ w.heap.size) (hg : w.grownBy w' v.ownBlock) : Below base w w' :=
  (Below.refl base w).grown hg hbase (fun k hk => (World.ownsRow.lt h k hk).1)
/-- append onto what is owned, or nothing. -/
theorem run_appE {P : Program} (w : World) (base : Nat) (t ty e : TypeId) (c bytes : Nat) (hF : Flat f c) (hT : Elem P t e c bytes) (v : Value) (l : List α) (hown : OwnE f base e c w v l)
    (vx : Value) (l2 : List α) (hs : RL f w vx l2) (hroom : (l.length + l2.length) * bytes ≤ 140737488355328) (h63 : l.length + l2.length ≤ maxLen) (hbase : base ≤ w.heap.size) :
    ∃ v' w', (Builtin.append_ #[t, t] ty #[v, vx]).run P w = .ok v' w' ∧ OwnE f base e c w' v' (l ++ l2) ∧ (l ++ l2 ≠ [] → Own f base e c w' v' (l ++ l2)) ∧ Below base w w' := by
  rcases hown with hown | ⟨rfl, a, rfl⟩
  · obtain ⟨v', w', h1, h2, h3⟩ := run_app (P := P) w base t ty e c bytes hF hT v l hown vx l2 hs hroom h63 hbase
    exact ⟨v', w', h1, .inl h2, fun _ => h2, hown.belowGrown hbase h3⟩
  · obtain ⟨ax, cx, rfl, hx1, hx2, hx3⟩ := hs
    obtain ⟨ht, i, z, hi, hz, hsz, hby, hzs⟩ := hT
    cases l2 with
    | nil =>
      refine ⟨.slice a 0 0, w, ?_, .inr ⟨rfl, a, rfl⟩, fun h => absurd rfl h, Below.refl _ _⟩
      cases a <;> cases ax <;> simp [Builtin.append_, run_underlying ht, Go.sizeOf, typeInfo, hi, Builtin.lenOf, Builtin.firstCells, loadCells, loadCellsFrom, storeCells]
    | cons y l2 =>
      rcases hx3 with hx3 | ⟨b, off, rfl, hc⟩
      · exfalso
        have hl := flat_len hF.len (y :: l2)
        have h4 : 0 < (y :: l2).length * c := Nat.mul_pos (by simp) hF.pos
        rw [hx3] at hl; rw [← hl] at h4
        simp at h4
      · have hl := flat_len hF.len (y :: l2)
        simp only [List.length_nil, Nat.zero_add] at hroom h63
        have hsrc : Src P i.size t (.slice (some ⟨b, off, none⟩) (y :: l2).length cx) (y :: l2).length ((y :: l2).flatMap f) w := Src.ofSlice w ht ⟨b, off, none⟩ _ _ _ (by rw [hl, hsz]) (fun j u hj => by rw [Addr.add_lit]; exact hc j u hj) (fun u hu => by obtain ⟨x, _, hx⟩ := List.mem_flatMap.1 hu; exact hF.one x u hx)
        have hold : (Builtin.firstCells i.size 0 (.slice a 0 0)).run P w.drew = .ok ([] : List Value).toArray w.drew := by
          cases a with
          | none => exact run_firstCells_none w.drew _ 0 0 0
          | some a => exact run_firstCells_some w.drew _ 0 a 0 0 [] (by simp) (fun j v hj => by simp at hj)
        have hgt : 0 < 0 + (y :: l2).length := by simp
        have hr := run_append_grow_src w t t ty e i z ht hi hz a 0 0 [] hold _ _ _ hsrc hgt (by unfold maxLen at h63; omega) (by rw [hby]; exact growslice_fits hgt (by simpa using hroom))
        simp only [Nat.zero_add, List.nil_append] at hr hgt ⊢
        have hge := grownCap_ge w (y :: l2).length 0 e
        have hcm := grownCap_le_maxLen w (y :: l2).length 0 e h63
        have ho : Own f base e c (w.drew.alloc (.cells (((y :: l2).flatMap f).toArray ++ Builtin.zeroCells z.cells (grownCap w (y :: l2).length 0 e - (y :: l2).length)) e)) (.slice (some ⟨w.heap.size, 0, none⟩) (y :: l2).length (grownCap w (y :: l2).length 0 e)) (y :: l2) := by
          refine Own.ofRow hF hbase (Blk.new w.drew _ e) hge hcm ?_ ?_
          · rw [Array.size_append, List.size_toArray, size_zeroCells, hl, hzs, ← Nat.add_mul]
            congr 1
            omega
          · rw [Array.toList_append]
            rw [← hl]
            exact List.take_left
        exact ⟨_, _, hr, .inl ho, fun _ => ho, (Below.refl base w).drew.alloc (by simpa using hbase) _⟩
end
end Wb

namespace Wb
open Go Go.RowKit
set_option linter.unusedVariables false
set_option linter.unusedSimpArgs false

/-- w' is w with new blocks; of the elder ones only those of S are written. -/
structure Mv (S : List Nat) (w w' : World) : Prop where
  os : w'.os = w.os
  tape : w'.tape = w.tape
  output : w'.output = w.output
  size : w.heap.size ≤ w'.heap.size
  block : ∀ k, k < w.heap.size → k ∉ S → w'.heap[k]? = w.heap[k]?
theorem Mv.refl (S : List Nat) (w : World) : Mv S w w := ⟨rfl, rfl, rfl, Nat.le_refl _, fun _ _ _ => rfl⟩
theorem Mv.below {w w' : World} (h : Mv [] w w') : Below w.heap.size w w' := ⟨h.os, h.tape, h.output, h.size, fun k hk => h.block k hk (by simp)⟩
theorem Mv.ofBelow {S : List Nat} {w w' : World} (h : Below w.heap.size w w') : Mv S w w' := ⟨h.os, h.tape, h.output, h.size, fun k hk _ => h.block k hk⟩
theorem Mv.ofGrown {g : Nat} {w w' : World} (h : w.grownBy w' (some g)) : Mv [g] w w' := ⟨h.os, h.tape, h.output, h.size, fun k hk hn => h.block k hk (by simpa using hn)⟩
theorem Mv.mono {S S' : List Nat} {w w' : World} (h : Mv S w w') (hs : ∀ k, k ∈ S → k ∈ S') : Mv S' w w' := ⟨h.os, h.tape, h.output, h.size, fun k hk hn => h.block k hk fun hh => hn (hs k hh)⟩
/-- One move behind another: what the second writes is of S or new to the first. -/
theorem Mv.then {S S' : List Nat} {a b c : World} (h : Mv S a b) (h2 : Mv S' b c) (hs : ∀ k, k ∈ S' → k ∈ S ∨ a.heap.size ≤ k) : Mv S a c :=
  ⟨h2.os.trans h.os, h2.tape.trans h.tape, h2.output.trans h.output, Nat.le_trans h.size h2.size, fun k hk hn =>
    (h2.block k (Nat.lt_of_lt_of_le hk h.size) fun hh => (hs k hh).elim hn (fun hh => by omega)).trans (h.block k hk hn)⟩
theorem Mv.trans {S : List Nat} {a b c : World} (h : Mv S a b) (h2 : Mv S b c) : Mv S a c := h.then h2 fun _ h => .inl h
theorem Mv.drew {S : List Nat} {a b : World} (h : Mv S a b) : Mv S a b.drew := ⟨h.os, h.tape, h.output, h.size, h.block⟩
theorem Mv.drewN {S : List Nat} {a b : World} (h : Mv S a b) (n : Nat) : Mv S a (b.drewN n) := ⟨h.os, h.tape, h.output, h.size, h.block⟩
theorem Mv.alloc (S : List Nat) (w : World) (o : Obj) : Mv S w (w.alloc o) := Mv.ofBelow (bal (b0 w) o)
theorem Mv.set (w : World) (p : Addr) (v : Value) : Mv [p.block] w (w.setCell p v) :=
  ⟨rfl, rfl, rfl, by simp, fun k _ hn => Below.heap_setCell w p v k (by simpa using hn)⟩
theorem Mv.sets (g : Nat) : ∀ (vs : List Value) (o : Nat) (w : World), Mv [g] w (w.setCells g o vs)
  | [], _, w => Mv.refl _ w
  | v :: r, o, w => (Mv.set w ⟨g, o, none⟩ v).trans (Mv.sets g r (o + 1) _)

/-- The block in which a slice lies. -/
def vblk : Value → Option Nat
  | .slice (some a) _ _ => some a.block
  | _ => none

theorem Sl.mv {S : List Nat} {w w' : World} {v : Value} {n : Nat} {cs : List Value} (h : Sl w v n cs) (hm : Mv S w w') (hn : cs = [] ∨ ∀ b, vblk v = some b → b ∉ S) : Sl w' v n cs := by
  obtain ⟨a, cap, hv, h1, h2, h3⟩ := h
  refine ⟨a, cap, hv, h1, h2, ?_⟩
  rcases hn with hn | hn
  · exact .inl hn
  rcases h3 with h3 | ⟨b, off, ha, hc⟩
  · exact .inl h3
  · refine .inr ⟨b, off, ha, fun j u hj => ?_⟩
    have h4 := hc j u hj
    have h5 := World.block_lt_of_cell? w _ h4
    rw [← h4]
    refine World.cell?_of_block (hm.block b h5 (hn b ?_))
    rw [hv, ha]; rfl
theorem Sl.lt {w : World} {v : Value} {n : Nat} {cs : List Value} (h : Sl w v n cs) : cs = [] ∨ ∀ b, vblk v = some b → b < w.heap.size := by
  obtain ⟨a, cap, hv, h1, h2, h3⟩ := h
  rcases h3 with h3 | ⟨b, off, ha, hc⟩
  · exact .inl h3
  · cases cs with
    | nil => exact .inl rfl
    | cons u r =>
      refine .inr fun b' hb => ?_
      rw [hv, ha] at hb
      cases hb
      exact World.block_lt_of_cell? w _ (hc 0 u rfl)

/-- A block that is known whole. -/
structure Ent where
  g : Nat
  cs : List Value
  t : TypeId
/-- A slice that is read. -/
structure Rd where
  v : Value
  n : Nat
  cs : List Value
def Rd.of {α : Type} (f : α → List Value) (v : Value) (l : List α) : Rd := ⟨v, l.length, l.flatMap f⟩
structure St (S : List Nat) (w0 w : World) (L : List Ent) (R : List Rd) : Prop where
  mv : Mv S w0 w
  nd : (L.map Ent.g).Nodup
  blk : ∀ e ∈ L, Blk w e.g e.cs.toArray e.t
  own : ∀ e ∈ L, e.g ∈ S ∨ w0.heap.size ≤ e.g
  rd : ∀ r ∈ R, Sl w r.v r.n r.cs ∧ (r.cs = [] ∨ ∀ b, vblk r.v = some b → ∀ e ∈ L, e.g ≠ b)

section
variable {S : List Nat} {w0 w w' : World} {L : List Ent} {R : List Rd}
theorem St.start (S : List Nat) (w0 : World) : St S w0 w0 [] [] := ⟨Mv.refl _ _, List.nodup_nil, (fun _ h => absurd h List.not_mem_nil), (fun _ h => absurd h List.not_mem_nil), (fun _ h => absurd h List.not_mem_nil)⟩
theorem St.drew (h : St S w0 w L R) : St S w0 w.drew L R := ⟨h.mv.drew, h.nd, h.blk, h.own, h.rd⟩
theorem St.drewN (h : St S w0 w L R) (n : Nat) : St S w0 (w.drewN n) L R := ⟨h.mv.drewN n, h.nd, h.blk, h.own, h.rd⟩
theorem St.below (h : St [] w0 w L R) : Below w0.heap.size w0 w := h.mv.below
theorem Blk.mv {b : Nat} {cs : Array Value} {t : TypeId} (h : Blk w b cs t) (hm : Mv S w w') (hn : b ∉ S) : Blk w' b cs t := (hm.block b h.lt hn).trans h
/-- A move that leaves the known blocks alone: a call that writes none of them. -/
theorem St.moved {S' : List Nat} (h : St S w0 w L R) (hm : Mv S' w w') (hs : ∀ k, k ∈ S' → k ∈ S ∨ w0.heap.size ≤ k) (hL : ∀ e ∈ L, e.g ∉ S') (hR : ∀ r ∈ R, r.cs = [] ∨ ∀ b, vblk r.v = some b → b ∉ S') : St S w0 w' L R :=
  ⟨h.mv.then hm hs, h.nd, fun e he => (h.blk e he).mv hm (hL e he), h.own, fun r hr => ⟨(h.rd r hr).1.mv hm (hR r hr), (h.rd r hr).2⟩⟩
/-- A call that only lays new blocks. -/
theorem St.call (h : St S w0 w L R) (hb : Below w.heap.size w w') : St S w0 w' L R :=
  h.moved (S' := []) (Mv.ofBelow hb) (fun _ h => absurd h List.not_mem_nil) (fun _ _ => List.not_mem_nil) (fun _ _ => .inr fun _ _ => List.not_mem_nil)
/-- A reading more: it lies in no known block. -/
theorem St.addR (h : St S w0 w L R) {v : Value} {n : Nat} {cs : List Value} (hv : Sl w v n cs) (hn : cs = [] ∨ ∀ b, vblk v = some b → ∀ e ∈ L, e.g ≠ b) : St S w0 w L (⟨v, n, cs⟩ :: R) :=
  ⟨h.mv, h.nd, h.blk, h.own, fun r hr => by
    rcases List.mem_cons.1 hr with rfl | hr
    · exact ⟨hv, hn⟩
    · exact h.rd r hr⟩
/-- A reading of the start. -/
theorem St.addR0 (h : St [] w0 w L R) {v : Value} {n : Nat} {cs : List Value} (hv : Sl w0 v n cs) : St [] w0 w L (⟨v, n, cs⟩ :: R) := by
  refine h.addR (hv.below h.below) ?_
  rcases hv.lt with hl | hl
  · exact .inl hl
  · refine .inr fun b hb e he heq => ?_
    have := hl b hb
    rcases h.own e he with ho | ho
    · cases ho
    · omega
/-- What a call hands back in a row of its own is read. -/
theorem St.addOwn (h : St S w0 w L R) (hb : Below w.heap.size w w') {α : Type} {f : α → List Value} {e : TypeId} {c : Nat} {v : Value} {l : List α} (ho : Own f w.heap.size e c w' v l) : St S w0 w' L (Rd.of f v l :: R) := by
  refine (h.call hb).addR ho.reads (.inr fun b hbv x hx heq => ?_)
  have hlt := (h.blk x hx).lt
  obtain ⟨_, h2⟩ := ho
  rcases h2 with ⟨rfl, _⟩ | ⟨g, cap, cur, rfl, hbg, _⟩
  · cases hbv
  · cases hbv
    have h3 : x.g = g := heq
    omega
theorem St.read (h : St S w0 w L R) {α : Type} {f : α → List Value} {v : Value} {l : List α} (hr : Rd.of f v l ∈ R) : RL f w v l := (h.rd _ hr).1
theorem St.at_ (h : St S w0 w L R) {g : Nat} {cs : List Value} {t : TypeId} (he : ⟨g, cs, t⟩ ∈ L) : Blk w g cs.toArray t := h.blk _ he
theorem St.cell (h : St S w0 w L R) {g : Nat} {cs : List Value} {t : TypeId} (he : ⟨g, cs, t⟩ ∈ L) (i : Nat) : w.cell? ⟨g, i, none⟩ = cs[i]? := by
  rw [(h.blk _ he).cell i]; simp
theorem St.free (h : St S w0 w L R) {g : Nat} {cs : List Value} {t : TypeId} (he : ⟨g, cs, t⟩ ∈ L) (i : Nat) : w.frozen? ⟨g, i, none⟩ = false := (h.blk _ he).free i
theorem St.k0 {g : Nat} {cs : List Value} {t : TypeId} (h : St S w0 w (⟨g, cs, t⟩ :: L) R) : Blk w g cs.toArray t := h.blk ⟨g, cs, t⟩ (by simp)
theorem St.k1 {e0 : Ent} {g : Nat} {cs : List Value} {t : TypeId} (h : St S w0 w (e0 :: ⟨g, cs, t⟩ :: L) R) : Blk w g cs.toArray t := h.blk ⟨g, cs, t⟩ (by simp)
theorem St.k2 {e0 e1 : Ent} {g : Nat} {cs : List Value} {t : TypeId} (h : St S w0 w (e0 :: e1 :: ⟨g, cs, t⟩ :: L) R) : Blk w g cs.toArray t := h.blk ⟨g, cs, t⟩ (by simp)
theorem St.k3 {e0 e1 e2 : Ent} {g : Nat} {cs : List Value} {t : TypeId} (h : St S w0 w (e0 :: e1 :: e2 :: ⟨g, cs, t⟩ :: L) R) : Blk w g cs.toArray t := h.blk ⟨g, cs, t⟩ (by simp)
theorem St.k4 {e0 e1 e2 e3 : Ent} {g : Nat} {cs : List Value} {t : TypeId} (h : St S w0 w (e0 :: e1 :: e2 :: e3 :: ⟨g, cs, t⟩ :: L) R) : Blk w g cs.toArray t := h.blk ⟨g, cs, t⟩ (by simp)
theorem St.r0 {α : Type} {f : α → List Value} {v : Value} {l : List α} (h : St S w0 w L (Rd.of f v l :: R)) : RL f w v l := h.read (v := v) (l := l) (f := f) (by simp)
theorem St.r1 {r0 : Rd} {α : Type} {f : α → List Value} {v : Value} {l : List α} (h : St S w0 w L (r0 :: Rd.of f v l :: R)) : RL f w v l := h.read (v := v) (l := l) (f := f) (by simp)
theorem St.r2 {r0 r1 : Rd} {α : Type} {f : α → List Value} {v : Value} {l : List α} (h : St S w0 w L (r0 :: r1 :: Rd.of f v l :: R)) : RL f w v l := h.read (v := v) (l := l) (f := f) (by simp)
/-- A new block. -/
theorem St.alloc (h : St S w0 w L R) (cs : List Value) (t : TypeId) : St S w0 (w.alloc (.cells cs.toArray t)) (⟨w.heap.size, cs, t⟩ :: L) R := by
  have h1 := h.call (bal (b0 w) (.cells cs.toArray t))
  refine ⟨h1.mv, ?_, fun e he => ?_, fun e he => ?_, fun r hr => ⟨(h1.rd r hr).1, ?_⟩⟩
  · rw [List.map_cons, List.nodup_cons]
    refine ⟨fun hm => ?_, h.nd⟩
    obtain ⟨e, he, heq⟩ := List.mem_map.1 hm
    have := (h.blk e he).lt
    simp only at heq; omega
  · rcases List.mem_cons.1 he with rfl | he
    · exact Blk.new w _ _
    · exact h1.blk e he
  · rcases List.mem_cons.1 he with rfl | he
    · exact .inr h.mv.size
    · exact h.own e he
  · rcases (h.rd r hr).1.lt with hl | hl
    · exact .inl hl
    · rcases (h.rd r hr).2 with h2 | h2
      · exact .inl h2
      · refine .inr fun b hb e he => ?_
        rcases List.mem_cons.1 he with rfl | he
        · have := hl b hb; show w.heap.size ≠ b; omega
        · exact h2 b hb e he
/-- The cells of a block, with others from a place on. -/
def upd : Nat → List Value → List Value → List Value
  | i + 1, vs, c :: cs => c :: upd i vs cs
  | 0, v :: vs, _ :: cs => v :: upd 0 vs cs
  | _, _, cs => cs
theorem upd_seg : ∀ (i : Nat) (vs cs : List Value), i + vs.length ≤ cs.length → upd i vs cs = cs.take i ++ vs ++ cs.drop (i + vs.length)
  | i + 1, vs, c :: cs, h => by
    have := upd_seg i vs cs (by simp at h; omega)
    simp only [upd, this, List.take_succ_cons, List.cons_append, List.cons.injEq, true_and]
    rw [show i + 1 + vs.length = (i + vs.length) + 1 by omega, List.drop_succ_cons]
  | 0, [], cs, h => by cases cs <;> simp [upd]
  | 0, v :: vs, c :: cs, h => by
    have := upd_seg 0 vs cs (by simp at h; omega)
    simp only [Nat.zero_add, List.take_zero, List.nil_append] at this
    simp [upd, this]
  | i + 1, vs, [], h => by simp at h
  | 0, v :: vs, [], h => by simp at h
theorem upd_len (i : Nat) (vs cs : List Value) (h : i + vs.length ≤ cs.length) : (upd i vs cs).length = cs.length := by
  rw [upd_seg i vs cs h]; simp; omega
/-- Cells of a known block are written. -/
theorem St.wrote (A B : List Ent) {g : Nat} {cs : List Value} {t : TypeId} (h : St S w0 w (A ++ ⟨g, cs, t⟩ :: B) R) (i : Nat) (vs : List Value) (hi : i + vs.length ≤ cs.length) : St S w0 (w.setCells g i vs) (A ++ ⟨g, upd i vs cs, t⟩ :: B) R := by
  have hm := Mv.sets g vs i w
  have hg : ⟨g, cs, t⟩ ∈ A ++ ⟨g, cs, t⟩ :: B := by simp
  have hnd := h.nd
  rw [List.map_append, List.map_cons, List.nodup_append] at hnd
  obtain ⟨n1, n2, n3⟩ := hnd
  rw [List.nodup_cons] at n2
  have hne : ∀ e, e ∈ A ∨ e ∈ B → e.g ≠ g := fun e he heq => by
    rcases he with he | he
    · exact n3 _ (List.mem_map_of_mem he) g (by simp) heq
    · have h5 := List.mem_map_of_mem (f := Ent.g) he
      rw [heq] at h5
      exact n2.1 h5
  have hsame : (A ++ ⟨g, upd i vs cs, t⟩ :: B).map Ent.g = (A ++ ⟨g, cs, t⟩ :: B).map Ent.g := by simp
  have hmem : ∀ e, e ∈ A ++ (⟨g, upd i vs cs, t⟩ : Ent) :: B → e = ⟨g, upd i vs cs, t⟩ ∨ ((e ∈ A ∨ e ∈ B) ∧ e ∈ A ++ (⟨g, cs, t⟩ : Ent) :: B) := fun e he => by
    simp only [List.mem_append, List.mem_cons] at he ⊢
    rcases he with he | he | he
    · exact .inr ⟨.inl he, .inl he⟩
    · exact .inl he
    · exact .inr ⟨.inr he, .inr (.inr he)⟩
  refine ⟨h.mv.then hm (fun k hk => ?_), by rw [hsame]; exact h.nd, fun e he => ?_, fun e he => ?_, fun r hr => ?_⟩
  · obtain rfl : k = g := by simpa using hk
    exact h.own _ hg
  · rcases hmem e he with rfl | ⟨he, he2⟩
    · have := Blk.sets (t := t) (b := g) vs i w cs.toArray (h.blk _ hg) (by simpa using hi)
      rw [← upd_seg i vs cs hi] at this
      exact this
    · exact Blk.sets_other (hne e he) vs i w (h.blk e he2)
  · rcases hmem e he with rfl | ⟨he, he2⟩
    · exact h.own ⟨g, cs, t⟩ hg
    · exact h.own e he2
  · obtain ⟨h1, h2⟩ := h.rd r hr
    rcases h2 with h2 | h2
    · exact ⟨h1.mv hm (.inl h2), .inl h2⟩
    · refine ⟨h1.mv hm (.inr fun b hb hbg => ?_), .inr fun b hb e he => ?_⟩
      · obtain rfl : b = g := by simpa using hbg
        exact h2 b hb _ hg rfl
      · rcases hmem e he with rfl | ⟨he, he2⟩
        · exact h2 b hb ⟨g, cs, t⟩ hg
        · exact h2 b hb e he2
/-- A call that writes one known block. -/
theorem St.calledOn (A B : List Ent) {g : Nat} {cs cs' : List Value} {t : TypeId} (h : St S w0 w (A ++ ⟨g, cs, t⟩ :: B) R) (hm : Mv [g] w w') (hk : Blk w' g cs'.toArray t) : St S w0 w' (A ++ ⟨g, cs', t⟩ :: B) R := by
  have hg : ⟨g, cs, t⟩ ∈ A ++ ⟨g, cs, t⟩ :: B := by simp
  have hnd := h.nd
  rw [List.map_append, List.map_cons, List.nodup_append] at hnd
  obtain ⟨n1, n2, n3⟩ := hnd
  rw [List.nodup_cons] at n2
  have hne : ∀ e, e ∈ A ∨ e ∈ B → e.g ≠ g := fun e he heq => by
    rcases he with he | he
    · exact n3 _ (List.mem_map_of_mem he) g (by simp) heq
    · have h5 := List.mem_map_of_mem (f := Ent.g) he
      rw [heq] at h5
      exact n2.1 h5
  have hsame : (A ++ ⟨g, cs', t⟩ :: B).map Ent.g = (A ++ ⟨g, cs, t⟩ :: B).map Ent.g := by simp
  have hmem : ∀ e, e ∈ A ++ (⟨g, cs', t⟩ : Ent) :: B → e = ⟨g, cs', t⟩ ∨ ((e ∈ A ∨ e ∈ B) ∧ e ∈ A ++ (⟨g, cs, t⟩ : Ent) :: B) := fun e he => by
    simp only [List.mem_append, List.mem_cons] at he ⊢
    rcases he with he | he | he
    · exact .inr ⟨.inl he, .inl he⟩
    · exact .inl he
    · exact .inr ⟨.inr he, .inr (.inr he)⟩
  refine ⟨h.mv.then hm (fun k hk => ?_), by rw [hsame]; exact h.nd, fun e he => ?_, fun e he => ?_, fun r hr => ?_⟩
  · obtain rfl : k = g := by simpa using hk
    exact h.own _ hg
  · rcases hmem e he with rfl | ⟨he, he2⟩
    · exact hk
    · exact (h.blk e he2).mv hm (by simpa using hne e he)
  · rcases hmem e he with rfl | ⟨he, he2⟩
    · exact h.own ⟨g, cs, t⟩ hg
    · exact h.own e he2
  · obtain ⟨h1, h2⟩ := h.rd r hr
    rcases h2 with h2 | h2
    · exact ⟨h1.mv hm (.inl h2), .inl h2⟩
    · refine ⟨h1.mv hm (.inr fun b hb hbg => ?_), .inr fun b hb e he => ?_⟩
      · obtain rfl : b = g := by simpa using hbg
        exact h2 b hb _ hg rfl
      · rcases hmem e he with rfl | ⟨he, he2⟩
        · exact h2 b hb ⟨g, cs, t⟩ hg
        · exact h2 b hb e he2
end

/-! ### What the table of types says -/
class AggT (P : Program) (T : TypeId) (n : outParam Nat) : Prop where
  row : ∃ d, P.underlying T = some d ∧ d.isRow = true
  size : (P.info? T).map (·.size) = some n
class OneT (P : Program) (T : TypeId) : Prop where
  row : ∃ d, P.underlying T = some d ∧ d.isRow = false
  size : (P.info? T).map (·.size) = some 1
class ZeroT (P : Program) (T : TypeId) (cs : outParam (List Value)) : Prop where
  zero : ((P.info? T).bind (·.zero)).map (·.cells) = some cs.toArray

/-- A cell of a list, to be found by evaluation. -/
def nth : List Value → Nat → Option Value
  | [], _ => none
  | v :: _, 0 => some v
  | _ :: r, n + 1 => nth r n
theorem nth_get : ∀ (l : List Value) (i : Nat), nth l i = l[i]?
  | [], i => by simp [nth]
  | v :: r, 0 => rfl
  | v :: r, i + 1 => by rw [List.getElem?_cons_succ]; exact nth_get r i
/-- What an operand holds, to be found by looking. -/
inductive EvR (a : Act) : Operand → Value → Prop
  | tmp {l : List Value} {d : List Deferred} {n : Nat} {v : Value} : a = ⟨l.toArray, d⟩ → nth l n = some v → EvR a (.tmp n) v
  | const (v : Value) : EvR a (.const v) v
theorem EvR.eval {a : Act} {x : Operand} {v : Value} (h : EvR a x v) : a.eval x = v := by
  cases h with
  | tmp ha hv =>
    subst ha
    rw [nth_get] at hv
    simp [Act.eval, hv]
  | const v => rfl

section
variable {P : Program} {ops : Array Oper} {Q : Exit → Act → World → Prop} {o : Oper} {rest : List Oper} {a : Act} {S : List Nat} {w0 w : World} {L : List Ent} {R : List Rd}
theorem run_loadOne {T : TypeId} [hT : OneT P T] {b i : Nat} {v : Value} (hc : w.cell? ⟨b, i, none⟩ = some v) : (loadVar T ⟨b, i, none⟩).run P w = .ok v w := by
  obtain ⟨⟨d, hu, hd⟩, _⟩ := hT
  have hagg : (isAgg T).run P w = .ok false w := by
    unfold isAgg
    rw [Sem.run_bind, run_underlying hu w]
    cases d <;> simp_all
  have hl : (load ⟨b, i, none⟩).run P w = .ok v w := by
    have := run_loadCells_list (P := P) w ⟨b, i, none⟩ [v] (fun j u hj => by
      cases j with
      | zero => simp at hj; subst hj; rw [Addr.add_mid]; exact hc
      | succ j => simp at hj)
    simp only [loadCells, List.length_cons, List.length_nil, loadCellsFrom, Sem.run_bind, Addr.add_mid, Nat.add_zero] at this
    cases hr : (load ⟨b, i, none⟩).run P w with
    | ok x w' =>
      rw [hr] at this
      simp only [Result.andThen_ok, Sem.run_pure] at this
      simp at this
      obtain ⟨h1, h2⟩ := this
      rw [h1, h2]
    | halt x w' => rw [hr] at this; simp at this
  simp only [loadVar, Sem.run_bind, hagg, Result.andThen_ok]
  exact hl
/-- Which operation stands first: for the walk, that tries the laws below at these alone. -/
def isLoad : Op → Bool
  | .load _ _ => true
  | _ => false
def isStore : Op → Bool
  | .store _ _ _ => true
  | _ => false
def isNew : Op → Bool
  | .alloc _ => true
  | .box _ _ => true
  | _ => false
def isMem : Op → Bool
  | .load _ _ => true
  | .store _ _ _ => true
  | .alloc _ => true
  | .box _ _ => true
  | _ => false
theorem at_mem (_ : isMem o.op = true) (h : wpList P ops Q (o :: rest) a w) : wpList P ops Q (o :: rest) a w := h
theorem at_load (_ : isLoad o.op = true) (h : wpList P ops Q (o :: rest) a w) : wpList P ops Q (o :: rest) a w := h
theorem at_store (_ : isStore o.op = true) (h : wpList P ops Q (o :: rest) a w) : wpList P ops Q (o :: rest) a w := h
theorem at_new (_ : isNew o.op = true) (h : wpList P ops Q (o :: rest) a w) : wpList P ops Q (o :: rest) a w := h
theorem at_load1 (T : TypeId) (x : Operand) (_ : o.op = .load T x) [OneT P T] (h : wpList P ops Q (o :: rest) a w) : wpList P ops Q (o :: rest) a w := h
theorem at_store1 (T : TypeId) (x y : Operand) (_ : o.op = .store T x y) [OneT P T] (h : wpList P ops Q (o :: rest) a w) : wpList P ops Q (o :: rest) a w := h
/-- One cell is read. -/
theorem m_load1 (hw : Region.wanted o (yielded ops a.tmps) = true) (T : TypeId) (x : Operand) (ho : o.op = .load T x) {g i : Nat} (hx : a.eval x = .pointer (some ⟨g, i, none⟩)) [OneT P T] (X : St S w0 w L R)
    {cs : List Value} {t : TypeId} (he : ⟨g, cs, t⟩ ∈ L) {v : Value} (hv : nth cs i = some v) (h : wpList P ops Q rest (a.put o.dst v) w) : wpList P ops Q (o :: rest) a w :=
  BigFrame.wpList_want hw fun K hK => by
    have hc : w.cell? ⟨g, i, none⟩ = some v := by rw [X.cell he, ← nth_get]; exact hv
    unfold Oper.wp execOp
    simp only [ho, hx, Instr.loadAt, Instr.sureAddr, Sem.run_bind, Sem.run_pure, Result.andThen_ok, run_loadOne (T := T) hc]
    exact hK _ _ h
/-- Cells are read, side by side. -/
theorem m_loadN (hw : Region.wanted o (yielded ops a.tmps) = true) (T : TypeId) (x : Operand) (ho : o.op = .load T x) {g i : Nat} (hx : a.eval x = .pointer (some ⟨g, i, none⟩)) {n : Nat} [hT : AggT P T n] (X : St S w0 w L R)
    {cs : List Value} {t : TypeId} (he : ⟨g, cs, t⟩ ∈ L) (hi : i + n ≤ cs.length) (h : wpList P ops Q rest (a.put o.dst (.agg ((cs.drop i).take n).toArray)) w) : wpList P ops Q (o :: rest) a w := by
  obtain ⟨⟨d, hu, hd⟩, hs⟩ := hT
  refine BigFrame.wpList_want hw fun K hK => wp_load_mid T x ho g i hx ((cs.drop i).take n) d (fun j v hj => ?_) hu hd (by rw [hs, List.length_take, List.length_drop]; congr 1; omega) (hK _ _ h)
  rw [X.cell he]
  rw [List.getElem?_take] at hj
  split at hj
  · rw [List.getElem?_drop] at hj; exact hj
  · cases hj
theorem oneAll {vs : List Value} (h : vs.all (·.oneCell') = true) : ∀ v ∈ vs, v.oneCell' = true := List.all_eq_true.1 h
theorem St.there (X : St S w0 w L R) {g : Nat} {cs : List Value} {t : TypeId} (he : ⟨g, cs, t⟩ ∈ L) {i n : Nat} (h : i + n ≤ cs.length) : w.there g i n := fun j hj => by
  refine ⟨?_, X.free he _⟩
  rw [X.cell he, List.getElem?_eq_getElem (by omega)]; rfl
/-- Cells are written, side by side: into the first, second, third, fourth known block. -/
theorem m_storeN (A B : List Ent) {g : Nat} {cs : List Value} {t : TypeId} (hw : Region.wanted o (yielded ops a.tmps) = true) (T : TypeId) (x y : Operand) (ho : o.op = .store T x y) {i : Nat} (hx : a.eval x = .pointer (some ⟨g, i, none⟩)) {n : Nat} [hT : AggT P T n]
    {vs : List Value} (hy : a.eval y = .agg vs.toArray) (X : St S w0 w (A ++ ⟨g, cs, t⟩ :: B) R) (hn : vs.length = n) (hi : i + vs.length ≤ cs.length) (h1 : vs.all (·.oneCell') = true)
    (h : ∀ w', St S w0 w' (A ++ ⟨g, upd i vs cs, t⟩ :: B) R → wpList P ops Q rest (a.put o.dst undef) w') : wpList P ops Q (o :: rest) a w :=
  BigFrame.wpList_want hw fun K hK => wp_store_mid T x y ho g i vs.toArray hx hy (X.there (cs := cs) (t := t) (by simp) (by simpa using hi)) (by rw [hT.size]; simp [hn]) (by simpa using h1) (hK _ _ (h _ (by simpa using X.wrote A B i vs hi)))
theorem run_storeOne {T : TypeId} [hT : OneT P T] {b i : Nat} {v : Value} (ht : w.there b i 1) (h1 : v.oneCell' = true) (hc : v.cells = #[v]) : (storeVar T ⟨b, i, none⟩ v).run P w = .ok () (w.setCells b i [v]) := by
  have := run_storeCells_cells (P := P) b i [v] 0 w (fun j hj => by simpa using (ht j (by simpa using hj)).1) (fun j hj => by simpa using (ht j (by simpa using hj)).2) (fun u hu => by simp at hu; subst hu; exact h1)
  have hi := hT.size
  cases hq : P.info? T with
  | none => simp [hq] at hi
  | some x =>
    have hs : x.size = 1 := by simpa [hq] using hi
    simp only [Nat.add_zero] at this
    simp [storeVar, Go.sizeOf, typeInfo, hq, hc, hs, this]
theorem m_store1 (A B : List Ent) {g : Nat} {cs : List Value} {t : TypeId} (hw : Region.wanted o (yielded ops a.tmps) = true) (T : TypeId) (x y : Operand) (ho : o.op = .store T x y) {i : Nat} (hx : a.eval x = .pointer (some ⟨g, i, none⟩)) [hT : OneT P T]
    {v : Value} (hy0 : EvR a y v) (X : St S w0 w (A ++ ⟨g, cs, t⟩ :: B) R) (hi : i < cs.length) (h1 : v.oneCell' = true) (hc : v.cells = #[v])
    (h : ∀ w', St S w0 w' (A ++ ⟨g, upd i [v] cs, t⟩ :: B) R → wpList P ops Q rest (a.put o.dst undef) w') : wpList P ops Q (o :: rest) a w :=
  BigFrame.wpList_want hw fun K hK => by
    have hy := hy0.eval
    have ht := X.there (g := g) (cs := cs) (t := t) (i := i) (n := 1) (by simp) (by omega)
    unfold Oper.wp execOp
    simp only [ho, hx, hy, Instr.storeAt, Instr.sureAddr, Sem.run_bind, Sem.run_pure, Result.andThen_ok, run_storeOne (T := T) ht h1 hc]
    exact hK _ _ (h _ (by simpa using X.wrote A B i [v] (show i + 1 ≤ cs.length from hi)))
/-- A new block of noughts. -/
theorem m_alloc (hw : Region.wanted o (yielded ops a.tmps) = true) (T : TypeId) (ho : o.op = .alloc T) {cs : List Value} [hT : ZeroT P T cs] (X : St S w0 w L R)
    (h : ∀ g w', St S w0 w' (⟨g, cs, T⟩ :: L) R → wpList P ops Q rest (a.put o.dst (.pointer (some ⟨g, 0, none⟩))) w') : wpList P ops Q (o :: rest) a w :=
  BigFrame.wpList_want hw fun K hK => by
    have hz := hT.zero
    cases hq : P.info? T with
    | none => simp [hq] at hz
    | some x =>
      cases hs : x.zero with
      | none => simp [hq, hs] at hz
      | some z =>
        have hc : z.cells = cs.toArray := by simpa [hq, hs] using hz
        unfold Oper.wp execOp
        simp only [ho, Instr.alloc, zeroValue, typeInfo, newVar, newRow, newObj, Sem.run_bind, Sem.run_pure, Result.andThen_ok]
        simp [hq, hs, hc]
        exact hK _ _ (h _ _ (X.alloc cs T))
/-- A value is laid into a new block. -/
theorem m_box (hw : Region.wanted o (yielded ops a.tmps) = true) (T : TypeId) (x : Operand) (ho : o.op = .box T x) {v : Value} (hx0 : EvR a x v) {cs : List Value} (hc : v.cells = cs.toArray) (X : St S w0 w L R)
    (h : ∀ g w', St S w0 w' (⟨g, cs, T⟩ :: L) R → wpList P ops Q rest (a.put o.dst (.pointer (some ⟨g, 0, none⟩))) w') : wpList P ops Q (o :: rest) a w :=
  BigFrame.wpList_want hw fun K hK => by
    have hx := hx0.eval
    unfold Oper.wp execOp
    simp only [ho, hx, hc, Instr.box, newVar, newRow, newObj, Sem.run_bind, Sem.run_pure, Result.andThen_ok]
    exact hK _ _ (h _ _ (X.alloc cs T))
theorem St.whole (X : St S w0 w L R) {T : TypeId} {n : Nat} [hT : AggT P T n] {g : Nat} {cs : List Value} {t : TypeId} (he : ⟨g, cs, t⟩ ∈ L) (hn : cs.length = n) : (loadVar T ⟨g, 0, none⟩).run P w = .ok (.agg cs.toArray) w := by
  obtain ⟨⟨d, hu, hd⟩, hs⟩ := hT
  exact run_loadVar_mid w g 0 T cs d (fun j v hj => by rw [Nat.zero_add, X.cell he]; exact hj) hu hd (by rw [hs, hn])
/-- A result that lies in a block. -/
theorem m_ret1 {fn : Func} {F : Ending → World → Prop} {p : Tmp} {T : TypeId} (hr : fn.results = #[.cell p T]) {g : Nat} (hp : EvR a (.tmp p) (.pointer (some ⟨g, 0, none⟩))) {n : Nat} [hT : AggT P T n] (X : St S w0 w L R)
    {cs : List Value} {t : TypeId} (he : ⟨g, cs, t⟩ ∈ L) (hn : cs.length = n) (hd : a.defers = []) (h : F (.returned (.agg cs.toArray)) w) : bodyPost P fn F .ret a w := by
  have hp' : a.tmps[p]?.getD undef = .pointer (some ⟨g, 0, none⟩) := by have := hp.eval; simpa [Act.eval] using this
  refine bodyPost_ret (v := .agg cs.toArray) ?_ hd h
  simp [results, hr, hp', asAddr, X.whole (T := T) he hn]
/-- A result that lies in a block, and one in a slot. -/
theorem m_ret2 {fn : Func} {F : Ending → World → Prop} {p q : Tmp} {T : TypeId} (hr : fn.results = #[.cell p T, .tmp q]) {g : Nat} (hp : EvR a (.tmp p) (.pointer (some ⟨g, 0, none⟩))) {v : Value} (hq : EvR a (.tmp q) v) {n : Nat} [hT : AggT P T n] (X : St S w0 w L R)
    {cs : List Value} {t : TypeId} (he : ⟨g, cs, t⟩ ∈ L) (hn : cs.length = n) (hd : a.defers = []) (h : F (.returned (.tuple #[.agg cs.toArray, v])) w) : bodyPost P fn F .ret a w := by
  have hp' : a.tmps[p]?.getD undef = .pointer (some ⟨g, 0, none⟩) := by have := hp.eval; simpa [Act.eval] using this
  have hq' : a.tmps[q]?.getD undef = v := by have := hq.eval; simpa [Act.eval] using this
  refine bodyPost_ret (v := .tuple #[.agg cs.toArray, v]) ?_ hd h
  simp [results, hr, hp', hq', asAddr, X.whole (T := T) he hn]
/-- A result that lies in a block, and two in slots. -/
theorem m_ret3 {fn : Func} {F : Ending → World → Prop} {p q r : Tmp} {T : TypeId} (hr : fn.results = #[.cell p T, .tmp q, .tmp r]) {g : Nat} (hp : EvR a (.tmp p) (.pointer (some ⟨g, 0, none⟩))) {v u : Value} (hq : EvR a (.tmp q) v) (hu : EvR a (.tmp r) u) {n : Nat} [hT : AggT P T n] (X : St S w0 w L R)
    {cs : List Value} {t : TypeId} (he : ⟨g, cs, t⟩ ∈ L) (hn : cs.length = n) (hd : a.defers = []) (h : F (.returned (.tuple #[.agg cs.toArray, v, u])) w) : bodyPost P fn F .ret a w := by
  have hp' : a.tmps[p]?.getD undef = .pointer (some ⟨g, 0, none⟩) := by have := hp.eval; simpa [Act.eval] using this
  have hq' : a.tmps[q]?.getD undef = v := by have := hq.eval; simpa [Act.eval] using this
  have hu' : a.tmps[r]?.getD undef = u := by have := hu.eval; simpa [Act.eval] using this
  refine bodyPost_ret (v := .tuple #[.agg cs.toArray, v, u]) ?_ hd h
  simp [results, hr, hp', hq', hu', asAddr, X.whole (T := T) he hn]
end
end Wb

namespace Wb
open Go Go.RowKit
set_option linter.unusedVariables false
set_option linter.unusedSimpArgs false

/-- v is the list l, in a row of its own: M is that row, with what is behind the list; or no row, where nothing is there yet. -/
def OwnM {α : Type} (f : α → List Value) (e : TypeId) (c : Nat) (v : Value) (l : List α) (M : List Ent) : Prop :=
  (v = .slice none 0 0 ∧ l = [] ∧ M = []) ∨ ∃ g cap rest, v = .slice (some ⟨g, 0, none⟩) l.length cap ∧ l.length ≤ cap ∧ cap ≤ maxLen ∧ (l.flatMap f ++ rest).length = cap * c ∧ M = [⟨g, l.flatMap f ++ rest, e⟩]
section
variable {α : Type} {f : α → List Value} {e : TypeId} {c : Nat} {v : Value} {l : List α} {M : List Ent} {S : List Nat} {w0 w w' : World} {L T : List Ent} {R : List Rd}
theorem OwnM.nil (f : α → List Value) (e : TypeId) (c : Nat) : OwnM f e c (.slice none 0 0) [] [] := .inl ⟨rfl, rfl, rfl⟩
theorem OwnM.form (h : OwnM f e c v l M) : ∃ a cap, v = .slice a l.length cap := by
  rcases h with ⟨rfl, rfl, _⟩ | ⟨g, cap, rest, rfl, _⟩
  · exact ⟨none, 0, rfl⟩
  · exact ⟨_, _, rfl⟩
/-- It is read. -/
theorem OwnM.reads (h : OwnM f e c v l M) (hb : ∀ x ∈ M, Blk w x.g x.cs.toArray x.t) : RL f w v l := by
  rcases h with ⟨rfl, rfl, rfl⟩ | ⟨g, cap, rest, rfl, h1, h2, h3, rfl⟩
  · exact ⟨none, 0, rfl, Nat.le_refl _, by simp [maxLen], .inl rfl⟩
  · have hk := hb _ (List.mem_singleton.2 rfl)
    refine ⟨_, cap, rfl, h1, h2, .inr ⟨g, 0, rfl, fun j u hj => ?_⟩⟩
    rw [hk.cell]
    have hlt : j < (l.flatMap f).length := (List.getElem?_eq_some_iff.1 hj).1
    rw [Nat.zero_add]
    simp only [List.getElem?_toArray]
    rw [List.getElem?_append_left hlt]; exact hj
theorem St.ownRd (X : St S w0 w (L ++ (M ++ T)) R) (h : OwnM f e c v l M) : RL f w v l := h.reads fun x hx => X.blk x (by simp [hx])
/-- Some of the blocks are forgotten. -/
theorem St.sub {L2 : List Ent} (X : St S w0 w L R) (hs : L2.Sublist L) : St S w0 w L2 R :=
  ⟨X.mv, (hs.map _).nodup X.nd, fun x hx => X.blk x (hs.subset hx), fun x hx => X.own x (hs.subset hx), fun r hr => ⟨(X.rd r hr).1, (X.rd r hr).2.imp id fun h b hb x hx => h b hb x (hs.subset hx)⟩⟩
/-- The row is only read from now on. -/
theorem St.ownEnd (X : St S w0 w (L ++ (M ++ T)) R) (h : OwnM f e c v l M) : St S w0 w (L ++ T) (Rd.of f v l :: R) := by
  have X2 : St S w0 w (L ++ T) R := X.sub (List.Sublist.append_left (List.sublist_append_right _ _) _)
  refine X2.addR (X.ownRd h) ?_
  rcases h with ⟨rfl, rfl, rfl⟩ | ⟨g, cap, rest, rfl, h1, h2, h3, rfl⟩
  · exact .inl rfl
  · refine .inr fun b hb x hx heq => ?_
    cases hb
    have hnd := X.nd
    simp only [List.map_append, List.map_cons, List.map_nil, List.nodup_append, List.nodup_cons, List.mem_append, List.mem_map, List.mem_singleton] at hnd
    obtain ⟨_, ⟨_, _, h5⟩, h6⟩ := hnd
    have heq2 : x.g = g := heq
    rcases List.mem_append.1 hx with hx | hx
    · exact h6 x.g ⟨x, hx, rfl⟩ g (.inl (by simp)) heq2
    · exact h5 g (by simp) x.g ⟨x, hx, rfl⟩ heq2.symm
/-- A block's cells behind its being written as a row. -/
theorem St.push_blk {w1 : World} {g g' : Nat} {cs cs' : List Value} (X : St S w0 w (L ++ ([⟨g, cs, e⟩] ++ T)) R) (hg : w.grownBy w1 (some g)) (hb : Blk w1 g' cs'.toArray e) (hg' : g' = g ∨ w.heap.size ≤ g') :
    St S w0 w1 (L ++ ([⟨g', cs', e⟩] ++ T)) R := by
  have hnd := X.nd
  simp only [List.map_append, List.map_cons, List.map_nil, List.nodup_append, List.nodup_cons, List.mem_append, List.mem_map, List.mem_singleton] at hnd
  obtain ⟨nL, ⟨_, nT, h5⟩, h6⟩ := hnd
  have ho := X.own ⟨g, cs, e⟩ (by simp)
  have hlt : ∀ x ∈ L ++ T, x.g < w.heap.size := fun x hx => (X.blk x (by rcases List.mem_append.1 hx with h | h <;> simp [h])).lt
  have hneL : ∀ x ∈ L, x.g ≠ g := fun x hx => h6 x.g ⟨x, hx, rfl⟩ g (.inl (by simp))
  have hneT : ∀ x ∈ T, x.g ≠ g := fun x hx heq => h5 g (by simp) x.g ⟨x, hx, rfl⟩ heq.symm
  have hne' : ∀ x ∈ L ++ T, x.g ≠ g' := fun x hx heq => by
    rcases hg' with rfl | hg'
    · rcases List.mem_append.1 hx with h | h
      · exact hneL x h heq
      · exact hneT x h heq
    · have := hlt x hx; omega
  have hm := Mv.ofGrown hg
  have hsz := X.mv.size
  have hR : ∀ r ∈ R, r.cs = [] ∨ ∀ b, vblk r.v = some b → b ≠ g := fun r hr => (X.rd r hr).2.imp id fun h b hb => (h b hb ⟨g, cs, e⟩ (by simp)).symm
  refine ⟨X.mv.then hm (fun k hk => ?_), ?_, fun x hx => ?_, fun x hx => ?_, fun r hr => ⟨(X.rd r hr).1.mv hm ((hR r hr).imp id fun h b hb => by simpa using h b hb), ?_⟩⟩
  · obtain rfl : k = g := by simpa using hk
    exact ho
  · simp only [List.map_append, List.map_cons, List.map_nil, List.nodup_append, List.nodup_cons, List.mem_append, List.mem_map, List.mem_singleton]
    refine ⟨nL, ⟨⟨by simp, List.nodup_nil⟩, nT, ?_⟩, ?_⟩
    · rintro a rfl b ⟨x, hx, rfl⟩ heq
      exact hne' x (by simp [hx]) heq.symm
    · rintro a ⟨x, hx, rfl⟩ b (rfl | ⟨y, hy, rfl⟩) heq
      · exact hne' x (by simp [hx]) heq
      · exact h6 x.g ⟨x, hx, rfl⟩ y.g (.inr ⟨y, hy, rfl⟩) heq
  · rcases List.mem_append.1 hx with hx | hx
    · exact (X.blk x (by simp [hx])).mv hm (by simpa using hneL x hx)
    · rcases List.mem_append.1 hx with hx | hx
      · obtain rfl := List.mem_singleton.1 hx; exact hb
      · exact (X.blk x (by simp [hx])).mv hm (by simpa using hneT x hx)
  · rcases List.mem_append.1 hx with hx | hx
    · exact X.own x (by simp [hx])
    · rcases List.mem_append.1 hx with hx | hx
      · obtain rfl := List.mem_singleton.1 hx
        rcases hg' with rfl | hg'
        · exact ho
        · exact .inr (by show w0.heap.size ≤ g'; omega)
      · exact X.own x (by simp [hx])
  · rcases (X.rd r hr).2 with h | h
    · exact .inl h
    · rcases (X.rd r hr).1.lt with h2 | h2
      · exact .inl h2
      refine .inr fun b hb x hx heq => ?_
      rcases List.mem_append.1 hx with hx | hx
      · exact h b hb x (by simp [hx]) heq
      · rcases List.mem_append.1 hx with hx | hx
        · obtain rfl := List.mem_singleton.1 hx
          rcases hg' with rfl | hg'
          · exact h b hb ⟨g', cs, e⟩ (by simp) heq
          · have := h2 b hb
            have h3 : g' = b := heq
            omega
        · exact h b hb x (by simp [hx]) heq
theorem St.perm {L2 : List Ent} (X : St S w0 w L R) (hp : L.Perm L2) : St S w0 w L2 R :=
  ⟨X.mv, (hp.map _).nodup_iff.1 X.nd, fun x hx => X.blk x (hp.mem_iff.2 hx), fun x hx => X.own x (hp.mem_iff.2 hx), fun r hr => ⟨(X.rd r hr).1, (X.rd r hr).2.imp id fun h b hb x hx => h b hb x (hp.mem_iff.2 hx)⟩⟩
theorem size_zeros (z : Array Value) (n : Nat) : (Builtin.zeroCells z n).size = n * z.size := by simp [Builtin.zeroCells]
/-- append: the row grows where it is, or a new one is laid. -/
theorem St.pushF {P : Program} (t ty : TypeId) (bytes : Nat) (hF : Flat f c) (hT : Elem P t e c bytes) (X : St S w0 w (L ++ (M ++ T)) R) (hO : OwnM f e c v l M)
    {vx : Value} (l2 : List α) (hs : RL f w vx l2) (hroom : l2.length * bytes ≤ 281474976710656) (hfit : ∀ old, old < l.length + l2.length → Builtin.nextslicecap (l.length + l2.length) old * bytes ≤ 281474976710656) (h63 : l.length + l2.length ≤ maxLen) :
    ∃ v' w' M', (Builtin.append_ #[t, t] ty #[v, vx]).run P w = .ok v' w' ∧ OwnM f e c v' (l ++ l2) M' ∧ St S w0 w' (L ++ (M' ++ T)) R := by
  obtain ⟨a, cx, rfl, x1, x2, x3⟩ := hs
  obtain ⟨ht, i, z, hi, hz, hsz, hby, hzs⟩ := hT
  subst hsz
  subst hby
  cases l2 with
  | nil =>
    refine ⟨v, w, M, ?_, by simpa using hO, X⟩
    rcases hO with ⟨rfl, rfl, rfl⟩ | ⟨g, cap, rest, rfl, h1, h2, h3, rfl⟩
    · cases a <;> simp [Builtin.append_, run_underlying ht, Go.sizeOf, typeInfo, hi, Builtin.lenOf, Builtin.firstCells, loadCells, loadCellsFrom]
    · cases a <;> simp [Builtin.append_, run_underlying ht, Go.sizeOf, typeInfo, hi, Builtin.lenOf, Builtin.firstCells, loadCells, loadCellsFrom, h1, storeCells]
  | cons y l2 =>
    have hfl := flat_len hF.len (y :: l2)
    rcases x3 with x3 | ⟨bx, off, rfl, hc⟩
    · exfalso
      have h4 : 0 < (y :: l2).length * i.size := Nat.mul_pos (by simp) hF.pos
      rw [x3] at hfl; rw [← hfl] at h4
      simp at h4
    have hnews : ∀ j u, ((y :: l2).flatMap f)[j]? = some u → w.cell? ((⟨bx, off, none⟩ : Addr).add j) = some u := fun j u hj => by rw [Addr.add_lit]; exact hc j u hj
    have hone : ∀ u ∈ (y :: l2).flatMap f, u.oneCell' = true := fun u hu => by obtain ⟨x, _, hx⟩ := List.mem_flatMap.1 hu; exact hF.one x u hx
    have hpos : 0 < (y :: l2).length := by simp
    generalize hn : (y :: l2).length = m at *
    generalize hnw : (y :: l2).flatMap f = news at *
    have hlm : (l ++ y :: l2).length = l.length + m := by rw [List.length_append, hn]
    have hfm : (l ++ y :: l2).flatMap f = l.flatMap f ++ news := by rw [List.flatMap_append, hnw]
    have hll := flat_len hF.len l
    simp only [maxLen] at h63
    rcases hO with ⟨rfl, rfl, rfl⟩ | ⟨g, cap, rest, rfl, h1, h2, h3, rfl⟩
    · have hr := run_append_nil (P := P) w t ty e i z ht hi hz ⟨bx, off, none⟩ m cx news hfl hnews (by omega) (by omega) hroom
      have hge := grownCap_ge w m 0 e
      have hcm : grownCap w m 0 e ≤ maxLen := grownCap_le_maxLen w m 0 e (by simp only [maxLen]; simp at h63; omega)
      refine ⟨_, _, [⟨w.heap.size, news ++ (Builtin.zeroCells z.cells (grownCap w m 0 e - m)).toList, e⟩], hr, .inr ⟨w.heap.size, grownCap w m 0 e, (Builtin.zeroCells z.cells (grownCap w m 0 e - m)).toList, by rw [hlm]; simp, by rw [hlm]; simpa using hge, hcm, ?_, by rw [hfm]; simp⟩, ?_⟩
      · rw [hfm]
        simp only [List.flatMap_nil, List.nil_append, List.length_append, Array.length_toList, size_zeros, hzs, hfl, ← Nat.add_mul]
        congr 1; omega
      · have X2 := (X.drew.alloc (news ++ (Builtin.zeroCells z.cells (grownCap w m 0 e - m)).toList) e)
        have X3 := X2.perm (L2 := L ++ ([⟨w.heap.size, news ++ (Builtin.zeroCells z.cells (grownCap w m 0 e - m)).toList, e⟩] ++ T)) (by
          simp only [List.nil_append, List.cons_append]
          exact (List.perm_middle).symm)
        have e1 : (news ++ (Builtin.zeroCells z.cells (grownCap w m 0 e - m)).toList).toArray = news.toArray ++ Builtin.zeroCells z.cells (grownCap w m 0 e - m) := by simp
        rw [e1] at X3
        exact X3
    · have hb := X.blk ⟨g, l.flatMap f ++ rest, e⟩ (by simp)
      have htk : (l.flatMap f ++ rest).take (l.length * i.size) = l.flatMap f := by rw [← hll]; exact List.take_left
      by_cases hrm : l.length + m ≤ cap
      · have hfit : l.length * i.size + news.length ≤ (l.flatMap f ++ rest).toArray.size := by
          rw [List.size_toArray, h3, hfl, ← Nat.add_mul]; exact Nat.mul_le_mul_right _ hrm
        have hr := run_append_room (P := P) w t ty e i ht hi g l.length cap _ hb ⟨bx, off, none⟩ m cx news hfl hnews hone hrm hfit
        have hdr : (l.flatMap f ++ rest).drop (l.length * i.size + news.length) = rest.drop news.length := by
          rw [← hll, ← List.drop_drop, List.drop_left]
        rw [List.toList_toArray, htk, hdr] at hr
        refine ⟨_, _, [⟨g, l.flatMap f ++ news ++ rest.drop news.length, e⟩], hr, .inr ⟨g, cap, rest.drop news.length, by rw [hlm], by rw [hlm]; exact hrm, h2, ?_, by rw [hfm]⟩, ?_⟩
        · rw [hfm]
          simp only [List.length_append, List.length_drop] at h3 ⊢
          rw [List.size_toArray, List.length_append] at hfit
          rw [hll] at h3 ⊢
          omega
        · refine X.push_blk ⟨rfl, rfl, rfl, by simp, fun k _ hk => setRow_other w g k _ (fun e => hk (by simp [e]))⟩ ?_ (.inl rfl)
          exact setRow_heap w g _ _ e _ hb
      · have holds : ∀ j u, (l.flatMap f)[j]? = some u → w.cell? ((⟨g, 0, none⟩ : Addr).add j) = some u := fun j u hj => by
          rw [Addr.add_lit, Nat.zero_add, hb.cell]
          have hlt : j < (l.flatMap f).length := (List.getElem?_eq_some_iff.1 hj).1
          simp only [List.getElem?_toArray]
          rw [List.getElem?_append_left hlt]; exact hj
        have hr := run_append_grow (P := P) w t ty e i z ht hi hz ⟨g, 0, none⟩ l.length cap (l.flatMap f) hll holds ⟨bx, off, none⟩ m cx news hfl hnews (by omega) (by omega) (hfit cap (by omega))
        have hge := grownCap_ge w (l.length + m) cap e
        have hcm : grownCap w (l.length + m) cap e ≤ maxLen := grownCap_le_maxLen w (l.length + m) cap e (by simp only [maxLen]; omega)
        refine ⟨_, _, [⟨w.heap.size, l.flatMap f ++ news ++ (Builtin.zeroCells z.cells (grownCap w (l.length + m) cap e - (l.length + m))).toList, e⟩], hr, .inr ⟨w.heap.size, grownCap w (l.length + m) cap e, (Builtin.zeroCells z.cells (grownCap w (l.length + m) cap e - (l.length + m))).toList, by rw [hlm], by rw [hlm]; exact hge, hcm, ?_, by rw [hfm]⟩, ?_⟩
        · rw [hfm]
          simp only [List.length_append, Array.length_toList, size_zeros, hzs, hfl, hll, ← Nat.add_mul]
          congr 1; omega
        · have e1 : (l.flatMap f).toArray ++ news.toArray ++ Builtin.zeroCells z.cells (grownCap w (l.length + m) cap e - (l.length + m)) = (l.flatMap f ++ news ++ (Builtin.zeroCells z.cells (grownCap w (l.length + m) cap e - (l.length + m))).toList).toArray := by simp
          rw [e1]
          refine X.push_blk (w1 := w.drew.alloc _) ⟨rfl, rfl, rfl, by simp, fun k hk _ => heap_alloc_old w.drew _ hk⟩ ?_ (.inr (Nat.le_refl _))
          exact Blk.new w.drew _ _
theorem St.push {P : Program} (t ty : TypeId) (bytes : Nat) (hF : Flat f c) (hT : Elem P t e c bytes) (X : St S w0 w (L ++ (M ++ T)) R) (hO : OwnM f e c v l M)
    {vx : Value} (l2 : List α) (hs : RL f w vx l2) (hroom : (l.length + l2.length) * bytes ≤ 140737488355328) (h63 : l.length + l2.length ≤ maxLen) :
    ∃ v' w' M', (Builtin.append_ #[t, t] ty #[v, vx]).run P w = .ok v' w' ∧ OwnM f e c v' (l ++ l2) M' ∧ St S w0 w' (L ++ (M' ++ T)) R :=
  X.pushF t ty bytes hF hT hO l2 hs (Nat.le_trans (Nat.mul_le_mul_right _ (Nat.le_add_left _ _)) (Nat.le_trans hroom (by decide))) (fun _ h => growslice_fits h hroom) h63
theorem St.pushW {P : Program} (t ty : TypeId) (bytes : Nat) (hF : Flat f c) (hT : Elem P t e c bytes) (X : St S w0 w (L ++ (M ++ T)) R) (hO : OwnM f e c v l M)
    {vx : Value} (l2 : List α) (hs : RL f w vx l2) (hroom : (l.length + l2.length + (l.length + l2.length) / 4 + 192) * bytes ≤ 281474976710656) (h63 : l.length + l2.length ≤ maxLen) :
    ∃ v' w' M', (Builtin.append_ #[t, t] ty #[v, vx]).run P w = .ok v' w' ∧ OwnM f e c v' (l ++ l2) M' ∧ St S w0 w' (L ++ (M' ++ T)) R :=
  X.pushF t ty bytes hF hT hO l2 hs (Nat.le_trans (Nat.mul_le_mul_right _ (by omega)) hroom) (fun _ h => growslice_fits_wide h hroom) h63
end
end Wb
namespace Wb
open Go Go.RowKit
section
variable {α : Type} {f : α → List Value} {e : TypeId} {c : Nat} {v : Value} {l : List α} {M : List Ent} {S : List Nat} {w0 w w' : World} {L T : List Ent} {R : List Rd}
theorem OwnM.fresh (h : OwnM f e c v l M) (X : St [] w0 w (L ++ (M ++ T)) R) : ∀ b, vblk v = some b → w0.heap.size ≤ b := fun b hb => by
  rcases h with ⟨rfl, rfl, rfl⟩ | ⟨g, cap, rest, rfl, h1, h2, h3, rfl⟩
  · cases hb
  · cases hb
    rcases X.own ⟨g, l.flatMap f ++ rest, e⟩ (by simp) with h | h
    · cases h
    · exact h
/-- 'append(s, y)' where s has a row of its own. pre: the blocks ahead of the row. -/
theorem m_push (pre : List Ent) {P : Program} {ops : Array Oper} {rest : List Oper} {o : Oper} {a : Act} {Q : Exit → Act → World → Prop} {cs : Array Value} {fr : Nat × Nat} {g : Nat} (hgd : o.guard = none) (s x : Operand) (t : TypeId)
    (ho : o.op = .call { callee := .builtin .append, args := #[s, x], argTypes := #[t, t] })
    (bytes : Nat) (hF : Flat f c) (hT : Elem P t e c bytes) (X : St S w0 w (pre ++ (M ++ T)) R) (hO : OwnM f e c v l M) (hs : a.eval s = v)
    (y : α) (hcs : (f y).toArray = cs) (hx : a.eval x = .slice (some ⟨g, 0, none⟩) 1 1) (hroom : (l.length + 1) * bytes ≤ 140737488355328) (h63 : l.length + 1 ≤ maxLen)
    (h : ∀ a' cap' w' M', OwnM f e c (.slice a' (l.length + 1) cap') (l ++ [y]) M' → St S w0 w' (pre ++ (M' ++ T)) R → wpList P ops Q rest (a.put o.dst (.slice a' (l.length + 1) cap')) w')
    (hg : g = w.heap.size := by first | rfl | (simp; done)) : wpList P ops Q (o :: rest) a (w.alloc (.cells cs e fr)) := by
  subst hcs
  subst hg
  have X2 : St S w0 (w.alloc (.cells (f y).toArray e fr)) (pre ++ (M ++ T)) R := X.call (bal (b0 w) _)
  refine wpList_plain hgd fun K hK => ?_
  obtain ⟨v', w', M', hr, r1, r2⟩ := X2.push (P := P) t o.type bytes hF hT hO [y] (RL.new1 w e fr y) hroom h63
  obtain ⟨a', cap', rfl⟩ := r1.form
  have hl : (l ++ [y]).length = l.length + 1 := by simp
  rw [hl] at hr r1
  unfold Oper.wp execOp
  simp only [ho, resolve, invoke, builtin, Sem.run_bind, Sem.run_pure, Result.andThen_ok, List.map_toArray, List.map_cons, List.map_nil, hs, hx, hr]
  exact hK _ _ (h a' cap' w' M' r1 r2)
end
end Wb
