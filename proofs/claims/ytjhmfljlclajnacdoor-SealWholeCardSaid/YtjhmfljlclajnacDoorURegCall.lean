/- Part of the proof: RegCall. -/
import Derived.Test.YtjhmfljlclajnacDoorURegApp
set_option linter.unusedVariables false
set_option linter.unusedSimpArgs false
namespace Wb
open Go Go.RowKit
theorem run_enter {P : Program} {f : FuncId} {fn : Func} {c : Code} (hf : P.funcs[f]? = some fn) (hname : (fn.name == "runtime.NumGoroutine") = false) (hb : fn.body = some c) (args : Array Value) (w : World) :
    (callFunc f args).run P w = .ok (.enter f args) w := by
 have h1 : fn.name ≠ "runtime.NumGoroutine" := by simpa using hname
 simp [callFunc, hf, h1, hb]
theorem step_call {P : Program} {ops : Array Oper} {o : Oper} {a : Act} {w : World} {K : Act → World → Prop} {Q : Exit → Act → World → Prop} {E : Prop} (f : FuncId) (xs : List Operand) (ts : Array TypeId)
    (hg : o.guard = none) (ho : o.op = .call { callee := .value (.func f), args := xs.toArray, argTypes := ts }) (args : Array Value) (ha : (xs.map a.eval).toArray = args)
    (hb : ∃ fn c, P.funcs[f]? = some fn ∧ (fn.name == "runtime.NumGoroutine") = false ∧ fn.body = some c) {R : Ending → World → Prop}
    (h : Calls P f args w R) (hK : ∀ e w', R e w' → ∃ v, e = .returned v ∧ K (a.put o.dst v) w') :
    if Region.wanted o (yielded ops a.tmps) = true then Oper.wp P o a w K Q else E := by
 have hw : Region.wanted o (yielded ops a.tmps) = true := by simp [Region.wanted, hg]
 rw [if_pos hw]
 subst ha
 obtain ⟨fn, c, h1, h2, h3⟩ := hb
 have hr : (execOp a.eval o).run P w = .ok (.enter f (xs.map a.eval).toArray) w := by
  unfold execOp
  simp [ho, resolve, invoke, Deferred.ofValue, Act.eval, run_enter h1 h2 h3]
 unfold Oper.wp
 rw [hr, Oper.upon_enter]
 exact h.mono fun e w' hr => by obtain ⟨v, rfl, hk⟩ := hK e w' hr; exact hk
theorem RL.ofBlk {α : Type} {f : α → List Value} {w : World} {g : Nat} {e : TypeId} (ys : List α) (hb : Blk w g (ys.flatMap f).toArray e) (hn : ys.length ≤ maxLen) : RL f w (.slice (some ⟨g, 0, none⟩) ys.length ys.length) ys := by
 refine ⟨_, _, rfl, Nat.le_refl _, hn, .inr ⟨_, _, rfl, fun j u hj => ?_⟩⟩
 rw [Nat.zero_add, hb.cell]
 simpa using hj
theorem len1 {α : Type} (l : List α) (x : α) : (l ++ [x]).length = l.length + 1 := by simp
theorem step_push {α : Type} {f : α → List Value} {P : Program} {ops : Array Oper} {o : Oper} {a : Act} {w : World} {K : Act → World → Prop} {Q : Exit → Act → World → Prop} {E : Prop}
    (hg : o.guard = none) (s x : Operand) (t : TypeId) (ho : o.op = .call { callee := .builtin .append, args := #[s, x], argTypes := #[t, t] })
    (base : Nat) (e : TypeId) (c bytes : Nat) (hF : Flat f c) (hT : Elem P t e c bytes) {v : Value} {l : List α} (hown : Own f base e c w v l) (hs : a.eval s = v)
    (y : α) (g : Nat) {cs : Array Value} (hrow : Blk w g cs e) (hcs : (f y).toArray = cs) (hx : a.eval x = .slice (some ⟨g, 0, none⟩) 1 1) (n : Nat) (hn : l.length = n) (hroom : (n + 1) * bytes ≤ 140737488355328) (h63 : n + 1 ≤ 9223372036854775807) (hbase : base ≤ w.heap.size)
    (hK : ∀ a' cap' w', Own f base e c w' (.slice a' (n + 1) cap') (l ++ [y]) → Below base w w' → w.grownBy w' v.ownBlock → K (a.put o.dst (.slice a' (n + 1) cap')) w') :
    if Region.wanted o (yielded ops a.tmps) = true then Oper.wp P o a w K Q else E := by
 subst hcs hn
 refine step_app hg s x t ho base e c bytes hF hT hown hs [y] (RL.ofBlk (e := e) [y] (by simpa using hrow) (by show 1 ≤ maxLen; decide)) hx hroom (by unfold maxLen; simpa using h63) hbase fun v' w' h1 h2 h3 => ?_
 obtain ⟨a', cap', rfl⟩ := h1.form
 rw [len1] at h1
 have := hK a' cap' w' h1 h2 h3
 rw [len1]
 exact this
theorem wpList_push1 {α : Type} {f : α → List Value} {P : Program} {w : World} {ops : Array Oper} {rest : List Oper} {o : Oper} {a : Act} {Q : Exit → Act → World → Prop} {cs : Array Value} {fr : Nat × Nat} {g : Nat} (hgd : o.guard = none) (s x : Operand) (t : TypeId)
    (ho : o.op = .call { callee := .builtin .append, args := #[s, x], argTypes := #[t, t] })
    (base : Nat) (e : TypeId) (c bytes : Nat) (hF : Flat f c) (hT : Elem P t e c bytes) {v : Value} {l : List α} (hown : Own f base e c w v l) (hs : a.eval s = v)
    (y : α) (hcs : (f y).toArray = cs) (hx : a.eval x = .slice (some ⟨g, 0, none⟩) 1 1) (n : Nat) (hn : l.length = n) (hroom : (n + 1) * bytes ≤ 140737488355328) (h63 : n + 1 ≤ 9223372036854775807) (hbase : base ≤ w.heap.size)
    (h : ∀ a' cap' w', Own f base e c w' (.slice a' (n + 1) cap') (l ++ [y]) → Below base w w' → w.grownBy w' v.ownBlock → wpList P ops Q rest (a.put o.dst (.slice a' (n + 1) cap')) w') (hg : g = w.heap.size := by first | rfl | (simp; done)) : wpList P ops Q (o :: rest) a (w.alloc (.cells cs e fr)) := by
 subst hn
 refine wpList_push hgd s x t ho base e c bytes hF hT hown hs y hcs hx hroom (by unfold maxLen; exact h63) hbase (fun v' w' h1 h2 h3 => ?_) hg
 obtain ⟨a', cap', rfl⟩ := h1.form
 rw [len1] at h1 ⊢
 exact h a' cap' w' h1 h2 h3
theorem bgo {a b c : World} (h : Below a.heap.size a b) (h2 : Below b.heap.size b c) : Below a.heap.size a c := h.trans (h2.mono h.size)
theorem bal {a b : World} (h : Below a.heap.size a b) (o : Obj) : Below a.heap.size a (b.alloc o) := h.alloc h.size o
theorem b0 (a : World) : Below a.heap.size a a := Below.refl _ _
theorem Own.drew {α : Type} {f : α → List Value} {base : Nat} {e : TypeId} {c : Nat} {w : World} {v : Value} {l : List α} (h : Own f base e c w v l) : Own f base e c w.drew v l := h
theorem RL.drew {α : Type} {f : α → List Value} {w : World} {v : Value} {l : List α} (h : RL f w v l) : RL f w.drew v l := h
end Wb
