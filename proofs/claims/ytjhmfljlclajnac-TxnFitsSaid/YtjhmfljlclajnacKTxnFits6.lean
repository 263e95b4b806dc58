/- What a function makes of a transaction's lists: each as it was, or in a row of its own. No program in sight. A region that draws its order, walked in one order: reads of known blocks may come at any time, what writes comes when all that it would turn has been read. No program in sight. A region that draws its order, where two effects may come in either order: walked as a tree. And stores past what is kept. No program in sight. The laws of memory, said shortly: which block is meant is found by a small search. No program in sight. The walk of Change. The walk of Fill. The walks of package slices: DeleteFunc at copies; drop. -/
import Derived.Test.YtjhmfljlclajnacKTxnFits5
import Derived.Test.YtjhmfljlclajnacKTxnFits0
import Derived.OrdersHeld
import Derived.Test.YtjhmfljlclajnacKTxnFits2
namespace Wb
open Go Go.RowKit
theorem Own.fresh {α : Type} {f : α → List Value} {base B : Nat} {e : TypeId} {c : Nat} {w : World} {v : Value} {l : List α} (h : Own f base e c w v l) (hB : B ≤ base) : ∀ b, vblk v = some b → B ≤ b := fun b hb => by
  obtain ⟨_, h2⟩ := h
  rcases h2 with ⟨rfl, _⟩ | ⟨g, cap, cur, rfl, hbg, _⟩
  · cases hb
  · cases hb; exact Nat.le_trans hB hbg
/-- The slice v, that read l, is still v and l, or a new one, of a block from B on. -/
def Slot {α : Type} (f : α → List Value) (B : Nat) (w' : World) (v v' : Value) (l l' : List α) : Prop := (v' = v ∧ l' = l) ∨ (RL f w' v' l' ∧ ∀ b, vblk v' = some b → B ≤ b)
theorem Slot.same {α : Type} (f : α → List Value) (B : Nat) (w' : World) (v : Value) (l : List α) : Slot f B w' v v l l := .inl ⟨rfl, rfl⟩
theorem Slot.read {α : Type} {f : α → List Value} {B : Nat} {w' : World} {v v' : Value} {l l' : List α} (h : Slot f B w' v v' l l') (hr : RL f w' v l) : RL f w' v' l' := by
  rcases h with ⟨rfl, rfl⟩ | ⟨h, _⟩
  · exact hr
  · exact h
structure NewT (B : Nat) (w' : World) (vm vd vr vm' vd' vr' : Value) (t t' : Txn) : Prop where
  m : Slot cpyC B w' vm vm' t.mt t'.mt
  d : Slot cpyC B w' vd vd' t.dt t'.dt
  r : Slot intC B w' vr vr' t.rev t'.rev
theorem NewT.same (B : Nat) (w' : World) (vm vd vr : Value) (t : Txn) : NewT B w' vm vd vr vm vd vr t t := ⟨.same _ _ _ _ _, .same _ _ _ _ _, .same _ _ _ _ _⟩
section
variable {S : List Nat} {w0 w w' : World} {L : List Ent} {R : List Rd}
theorem St.addSlot (X : St S w0 w L R) {α : Type} {f : α → List Value} {B : Nat} {v v' : Value} {l l' : List α} (hB : ∀ e ∈ L, e.g < B) (hs : Slot f B w v v' l l') (hv : Rd.of f v l ∈ R) : St S w0 w L (Rd.of f v' l' :: R) := by
  rcases hs with ⟨rfl, rfl⟩ | ⟨h1, h2⟩
  · exact X.addR (X.rd _ hv).1 (X.rd _ hv).2
  · exact X.addR h1 (.inr fun b hb e he heq => by
      have := h2 b hb
      have := hB e he
      omega)
theorem St.lts (X : St S w0 w L R) : ∀ e ∈ L, e.g < w.heap.size := fun e he => (X.blk e he).lt
/-- Behind a call that hands a transaction back. -/
theorem St.addT (X : St S w0 w L R) (hb : Below w.heap.size w w') {vm vd vr vm' vd' vr' : Value} {t t' : Txn} (hN : NewT w.heap.size w' vm vd vr vm' vd' vr' t t') (hm : Rd.of cpyC vm t.mt ∈ R) (hd : Rd.of cpyC vd t.dt ∈ R) (hr : Rd.of intC vr t.rev ∈ R) :
    St S w0 w' L (Rd.of cpyC vm' t'.mt :: Rd.of cpyC vd' t'.dt :: Rd.of intC vr' t'.rev :: R) := by
  have X1 := X.call hb
  have X2 := X1.addSlot X.lts hN.r hr
  have X3 := X2.addSlot X.lts hN.d (List.mem_cons_of_mem _ hd)
  exact X3.addSlot X.lts hN.m (List.mem_cons_of_mem _ (List.mem_cons_of_mem _ hm))
theorem St.rtxn (X : St S w0 w L R) {vm vd vr : Value} {t : Txn} (hm : Rd.of cpyC vm t.mt ∈ R) (hd : Rd.of cpyC vd t.dt ∈ R) (hr : Rd.of intC vr t.rev ∈ R) (h1 : t.mt.length ≤ 5864062014805) (h2 : t.dt.length ≤ 5864062014805) (h3 : t.rev.length ≤ 17592186044160) : RTxn w (txnV t vm vd vr) t :=
  ⟨vm, vd, vr, rfl, X.read hm, X.read hd, X.read hr, h1, h2, h3⟩
theorem St.rt0 {vm vd vr : Value} {t : Txn} (X : St S w0 w L (Rd.of cpyC vm t.mt :: Rd.of cpyC vd t.dt :: Rd.of intC vr t.rev :: R)) (h1 : t.mt.length ≤ 5864062014805) (h2 : t.dt.length ≤ 5864062014805) (h3 : t.rev.length ≤ 17592186044160) : RTxn w (txnV t vm vd vr) t :=
  X.rtxn (.head _) (.tail _ (.head _)) (.tail _ (.tail _ (.head _))) h1 h2 h3
theorem St.rt1 {r0 r1 r2 : Rd} {vm vd vr : Value} {t : Txn} (X : St S w0 w L (r0 :: r1 :: r2 :: Rd.of cpyC vm t.mt :: Rd.of cpyC vd t.dt :: Rd.of intC vr t.rev :: R)) (h1 : t.mt.length ≤ 5864062014805) (h2 : t.dt.length ≤ 5864062014805) (h3 : t.rev.length ≤ 17592186044160) : RTxn w (txnV t vm vd vr) t :=
  X.rtxn (.tail _ (.tail _ (.tail _ (.head _)))) (.tail _ (.tail _ (.tail _ (.tail _ (.head _))))) (.tail _ (.tail _ (.tail _ (.tail _ (.tail _ (.head _)))))) h1 h2 h3
/-- A transaction of the start. -/
theorem St.startT {vm vd vr : Value} {t : Txn} (ht : RTxn w0 (txnV t vm vd vr) t) : St [] w0 w0 [] [Rd.of cpyC vm t.mt, Rd.of cpyC vd t.dt, Rd.of intC vr t.rev] := by
  obtain ⟨vm', vd', vr', hv, h1, h2, h3, _⟩ := ht
  simp only [txnV, Value.agg.injEq, Array.mk.injEq, List.cons.injEq, and_true, true_and] at hv
  obtain ⟨rfl, rfl, rfl⟩ := hv
  exact (((St.start [] w0).addR0 h3).addR0 h2).addR0 h1
end
theorem NewT.rtxn {B : Nat} {w' : World} {vm vd vr vm' vd' vr' : Value} {t t' : Txn} (h : NewT B w' vm vd vr vm' vd' vr' t t') (ht : RTxn w' (txnV t vm vd vr) t) (h1 : t'.mt.length ≤ 5864062014805) (h2 : t'.dt.length ≤ 5864062014805) (h3 : t'.rev.length ≤ 17592186044160) : RTxn w' (txnV t' vm' vd' vr') t' := by
  obtain ⟨um, ud, ur, hv, r1, r2, r3, _⟩ := ht
  simp only [txnV, Value.agg.injEq, Array.mk.injEq, List.cons.injEq, and_true, true_and] at hv
  obtain ⟨rfl, rfl, rfl⟩ := hv
  exact ⟨_, _, _, rfl, h.m.read r1, h.d.read r2, h.r.read r3, h1, h2, h3⟩
end Wb

namespace Wb
open Go Go.RowKit
set_option linter.unusedVariables false
set_option linter.unusedSimpArgs false
section
variable {P : Program} {ops : Array Oper} {Q : Exit → Act → World → Prop} {md : Region.Mode} {S : World → Prop} {brk : List Nat}

/-- Does operation b wait for operation i by itself? -/
def waitB (md : Region.Mode) (ops : Array Oper) (b i : Nat) : Bool := ((ops[b]?).map fun o => o.after.any fun e => Region.binds md e && e.on == i).getD true
/-- Whatever order comes from here on; every operation but those of 'brk' leaves S as it is. -/
def AnyS (P : Program) (md : Region.Mode) (ops : Array Oper) (Q : Exit → Act → World → Prop) (S : World → Prop) (brk : List Nat) : Nat → Array Bool → Act → World → Prop
  | 0, x, a, w => Region.ready md ops x = [] ∧ Q .normal a w
  | n + 1, x, a, w => (Region.ready md ops x = [] → Q .normal a w) ∧
      ∀ i ∈ Region.ready md ops x, wpOp P ops Q i (fun b v => (brk.contains i = false → S w → S v) ∧ AnyS P md ops Q S brk n (x.setIfInBounds i true) b v) a w
theorem AnyS.any : ∀ (n : Nat) (x : Array Bool) (a : Act) (w : World), AnyS P md ops Q S brk n x a w → wpAny P md ops Q n x a w
  | 0, _, _, _, h => h
  | n + 1, x, a, w, h => ⟨h.1, fun i hi => wpOp_mono (fun b v hh => AnyS.any n _ b v hh.2) (h.2 i hi)⟩
theorem waitB_spec {b i : Nat} {o : Oper} (ho : ops[b]? = some o) (h : waitB md ops b i = true) : ∃ e ∈ o.after, Region.binds md e = true ∧ e.on = i := by
  unfold waitB at h
  rw [ho] at h
  obtain ⟨e, he, hb⟩ := Array.any_eq_true'.1 h
  rw [Bool.and_eq_true, beq_iff_eq] at hb
  exact ⟨e, he, hb.1, hb.2⟩
/-- What is told of an operation that reads: all that it shares with those that may still come. -/
def Loose (md : Region.Mode) (ops : Array Oper) (x : Array Bool) (i : Nat) (o : Oper) : Prop :=
  ∀ j oj, ops[j]? = some oj → j ≠ i → x.getD j true = false → (∀ e ∈ oj.after, Region.binds md e = true → e.on ≠ i) → o.apart ops oj = true
theorem Loose.set {x : Array Bool} {i j : Nat} {o : Oper} (h : Loose md ops x i o) (hj : x.getD j true = false) : Loose md ops (x.setIfInBounds j true) i o := fun k ok hk hne hun hno => by
  by_cases e : j = k
  · subst e; exact h _ ok hk hne hj hno
  · exact h k ok hk hne (by rw [getD_set_ne true e] at hun; exact hun) hno
/-- An operation that reads may be taken first: where S holds, if all that may end S waits for it; or anywhere. -/
theorem AnyS.take {T : World → Prop} {i : Nat} {o : Oper} {v : Value} (hi : ops[i]? = some o) (hsel : ∀ (j : Nat) (o : Oper) cs b, ops[j]? = some o → o.op ≠ .select cs b)
    (hQ : ∀ c a w, Q (.panic c) (a.put o.dst v) w → Q (.panic c) a w) (hT : (T = S ∧ brk.all (fun b => waitB md ops b i) = true) ∨ ∀ w, T w) :
    ∀ (n : Nat) (x : Array Bool) (a : Act) (w : World), Loose md ops x i o → i ∈ Region.ready md ops x → YieldsIf P ops T o v a → T w →
      AnyS P md ops Q S brk n (x.setIfInBounds i true) (a.put o.dst v) w → AnyS P md ops Q S brk (n + 1) x a w
  | n, x, a, w, hl, hr, hy, hS, H => by
    have hne : Region.ready md ops x ≠ [] := fun e => by rw [e] at hr; cases hr
    refine ⟨fun e => absurd e hne, fun j hj => ?_⟩
    by_cases e : j = i
    · subst e
      exact hy.wpOp hi hS ⟨fun _ h => h, H⟩
    · have hj2 := ready_mono hj e
      obtain ⟨hju, oj, hoj, hall⟩ := mem_ready.1 hj
      have hiu := (mem_ready.1 hr).1
      have hnot : ∀ d ∈ oj.after, Region.binds md d = true → d.on ≠ i := fun d hd hb he => by
        have h1 := hall d hd hb
        rw [he] at h1
        rcases Nat.lt_or_ge i x.size with h3 | h3
        · simp [h3] at hiu h1; rw [hiu] at h1; cases h1
        · simp [Array.getElem?_eq_none h3] at h1
      have next : ∀ u, (brk.contains j = false → S w → S u) → T u := fun u hu => by
        rcases hT with ⟨rfl, hbrk⟩ | hT
        · refine hu ?_ hS
          cases hb : brk.contains j with
          | false => rfl
          | true =>
            have h1 := List.all_eq_true.1 hbrk j (by simpa using hb)
            obtain ⟨d, hd, hb1, hb2⟩ := waitB_spec hoj h1
            exact absurd hb2 (hnot d hd hb1)
        · exact hT u
      cases n with
      | zero => rw [H.1] at hj2; cases hj2
      | succ n =>
        have h1 := H.2 j hj2
        have h2 := wpOp_putIf hoj (hl j oj hoj e hju hnot) (fun cs b => hsel i o cs b hi) (fun cs b => hsel j oj cs b hoj) hQ hy h1
        refine wpOp_mono (fun b u hh => ?_) h2
        obtain ⟨hy2, hS2, H2⟩ := hh
        refine ⟨hS2, AnyS.take hi hsel hQ hT n _ b u (hl.set hju) (ready_mono hr (Ne.symm e)) hy2 (next u hS2) ?_⟩
        rw [Array.setIfInBounds_comm _ _ e]
        exact H2

/-! ### One order -/
/-- The operations, in one order: those of 'eff' do something, those of 'lds' read what S tells, the others yield in whatever world. -/
def Seq (P : Program) (ops : Array Oper) (Q : Exit → Act → World → Prop) (S : World → Prop) (brk eff lds : List Nat) : List Nat → Act → World → Prop
  | [], a, w => Q .normal a w
  | i :: r, a, w => if eff.contains i = true then wpOp P ops Q i (fun b v => (brk.contains i = false → S w → S v) ∧ Seq P ops Q S brk eff lds r b v) a w
      else if lds.contains i = true then ∃ o v, ops[i]? = some o ∧ YieldsIf P ops S o v a ∧ S w ∧ (∀ c a w, Q (.panic c) (a.put o.dst v) w → Q (.panic c) a w) ∧ Seq P ops Q S brk eff lds r (a.put o.dst v) w
      else ∃ o v, ops[i]? = some o ∧ YieldsIf P ops (fun _ => True) o v a ∧ (∀ c a w, Q (.panic c) (a.put o.dst v) w → Q (.panic c) a w) ∧ Seq P ops Q S brk eff lds r (a.put o.dst v) w
/-- Is it an order that stands for all? -/
def ordOk (md : Region.Mode) (ops : Array Oper) (brk eff lds : List Nat) : Array Bool → List Nat → Bool
  | x, [] => (Region.ready md ops x).isEmpty
  | x, i :: r => (if eff.contains i = true then Region.ready md ops x == [i] else (Region.ready md ops x).contains i && Region.free md ops x i && (!lds.contains i || brk.all (fun b => waitB md ops b i))) && ordOk md ops brk eff lds (x.setIfInBounds i true) r
theorem Seq.anyS {eff lds : List Nat} (hs : Region.noSelect ops = true) : ∀ (r : List Nat) (x : Array Bool) (a : Act) (w : World), ordOk md ops brk eff lds x r = true → Seq P ops Q S brk eff lds r a w → AnyS P md ops Q S brk r.length x a w
  | [], x, a, w, hk, h => ⟨List.isEmpty_iff.1 hk, h⟩
  | i :: r, x, a, w, hk, h => by
    unfold ordOk at hk
    rw [Bool.and_eq_true] at hk
    obtain ⟨h1, h2⟩ := hk
    unfold Seq at h
    split at h
    · rename_i he
      rw [if_pos he] at h1
      have hr : Region.ready md ops x = [i] := by simpa using h1
      refine ⟨fun e => (by rw [hr] at e; cases e), fun j hj => ?_⟩
      rw [hr] at hj
      obtain rfl : j = i := by simpa using hj
      exact wpOp_mono (fun b v hh => ⟨hh.1, Seq.anyS hs r _ b v h2 hh.2⟩) h
    · rename_i he
      rw [if_neg he, Bool.and_eq_true, Bool.and_eq_true] at h1
      obtain ⟨⟨h3, h4⟩, h5⟩ := h1
      split at h
      · rename_i hl
        rw [hl, Bool.not_true, Bool.false_or] at h5
        obtain ⟨o, v, hi, hy, hS, hQ, hn⟩ := h
        exact AnyS.take hi (Region.noSelect_spec hs) hQ (.inl ⟨rfl, h5⟩) r.length x a w (fun j oj hj hne hun hno => Region.free_spec hi h4 j oj hj hne hun hno) (by simpa using h3) hy hS (Seq.anyS hs r _ _ _ h2 hn)
      · obtain ⟨o, v, hi, hy, hQ, hn⟩ := h
        exact AnyS.take hi (Region.noSelect_spec hs) hQ (.inr fun _ => trivial) r.length x a w (fun j oj hj hne hun hno => Region.free_spec hi h4 j oj hj hne hun hno) (by simpa using h3) hy trivial (Seq.anyS hs r _ _ _ h2 hn)
/-- Blocks that are known, and what is read. -/
structure Kept (L0 : List Ent) (R0 : List Rd) (w : World) : Prop where
  l : ∀ e ∈ L0, Blk w e.g e.cs.toArray e.t
  r : ∀ x ∈ R0, Sl w x.v x.n x.cs
/-- THE BEGINNING. -/
theorem wp_seq {id : Nat} {a : Act} {w : World} (L : List Ent) (R : List Rd) (brk eff lds perm : List Nat) (hm : P.follows .mixedOrders = true) (hs : (Region.noSelect ops && (perm.length == ops.size && ordOk .any ops brk eff lds (Array.replicate ops.size false) perm)) = true)
    (h : Seq P ops Q (Kept L R) brk eff lds perm a w.drew) : (Code.region id ops true).wp P Q a w := by
  rw [Bool.and_eq_true, Bool.and_eq_true] at hs
  obtain ⟨h1, h2, h3⟩ := hs
  have := Seq.anyS h1 perm _ a _ h3 h
  rw [show perm.length = ops.size by simpa using h2] at this
  exact wp_region_any hm (AnyS.any _ _ _ _ this)
end

/-! ### The steps -/
def nthO : List Oper → Nat → Option Oper
  | [], _ => none
  | o :: _, 0 => some o
  | _ :: r, n + 1 => nthO r n
theorem nthO_get : ∀ (l : List Oper) (i : Nat), nthO l i = l[i]?
  | [], i => by simp [nthO]
  | v :: r, 0 => rfl
  | v :: r, i + 1 => by rw [List.getElem?_cons_succ]; exact nthO_get r i
def oAt (ops : Array Oper) (i : Nat) : Option Oper := nthO ops.toList i
theorem oAt_get {ops : Array Oper} {i : Nat} {o : Oper} (h : oAt ops i = some o) : ops[i]? = some o := by
  unfold oAt at h
  rw [nthO_get] at h
  simpa using h
section
variable {P : Program} {ops : Array Oper} {Q : Exit → Act → World → Prop} {L0 : List Ent} {brk eff lds : List Nat} {i : Nat} {r : List Nat} {o : Oper} {a : Act} {S : List Nat} {w0 w : World} {L : List Ent} {R : List Rd}
/-- What is kept is among what is known now. -/
structure Under (L0 : List Ent) (R0 : List Rd) (L : List Ent) (R : List Rd) : Prop where
  l : L0.Sublist L
  r : ∀ x ∈ R0, x ∈ R
theorem Under.up {R0 : List Rd} {x : Rd} (h : Under L0 R0 L R) : Under L0 R0 L (x :: R) := ⟨h.l, fun y hy => List.mem_cons_of_mem _ (h.r y hy)⟩
theorem Under.up3 {R0 : List Rd} {x y z : Rd} (h : Under L0 R0 L R) : Under L0 R0 L (x :: y :: z :: R) := h.up.up.up
abbrev SQ (P : Program) (ops : Array Oper) (Q : Exit → Act → World → Prop) (L0 : List Ent) (R0 : List Rd) (brk eff lds : List Nat) : List Nat → Act → World → Prop := Seq P ops Q (Kept L0 R0) brk eff lds
def NoLook (Q : Exit → Act → World → Prop) : Prop := ∀ c a (k : Tmp) v w, Q (.panic c) (a.put (some k) v) w → Q (.panic c) a w
theorem NoLook.all (h : NoLook Q) : ∀ c a d v w, Q (.panic c) (a.put d v) w → Q (.panic c) a w := fun c a d v w hh => by
  cases d with
  | none => exact hh
  | some k => exact h c a k v w hh
theorem q_start {id : Nat} (k : Nat) (brk eff lds perm : List Nat) (X : St S w0 w L R) (hm : P.follows .mixedOrders = true) (hs : (Region.noSelect ops && (perm.length == ops.size && ordOk .any ops brk eff lds (Array.replicate ops.size false) perm)) = true) (hQ : NoLook Q)
    (h : NoLook Q → St S w0 w.drew L R → Under (L.take k) R L R → SQ P ops Q (L.take k) R brk eff lds perm a w.drew) : (Code.region id ops true).wp P Q a w := wp_seq (L.take k) R brk eff lds perm hm hs (h hQ X.drew ⟨List.take_sublist _ _, fun _ h => h⟩)
theorem q_nil {R0 : List Rd} (h : Q .normal a w) : SQ P ops Q L0 R0 brk eff lds [] a w := h
theorem St.keeps {R0 : List Rd} (X : St S w0 w L R) (hL : Under L0 R0 L R) : Kept L0 R0 w := ⟨fun e he => X.blk e (hL.l.subset he), fun r hr => (X.rd r (hL.r r hr)).1⟩
theorem St.und {R0 : List Rd} (X : St S w0 w L R) (hL : Under L0 R0 L R) : Under L0 R0 L R := hL
variable {R0 : List Rd}
/-- An operation that does something. -/
theorem q_eff (hi : oAt ops i = some o) (he : eff.contains i = true) (hw : Region.wanted o (yielded ops a.tmps) = true)
    (h : ∀ K : Act → World → Prop, (∀ b v, (brk.contains i = false → Kept L0 R0 w → Kept L0 R0 v) → SQ P ops Q L0 R0 brk eff lds r b v → K b v) → o.wp P a w K Q) : SQ P ops Q L0 R0 brk eff lds (i :: r) a w := by
  unfold SQ Seq
  rw [if_pos he]
  unfold wpOp
  rw [oAt_get hi]
  simp only [hw, if_true]
  exact .inl (h _ fun b v h1 h2 => ⟨h1, h2⟩)
/-- One that reads what is known. -/
theorem q_read {v : Value} (hi : oAt ops i = some o) (he : (!eff.contains i && lds.contains i) = true) (hw : Region.wanted o (yielded ops a.tmps) = true) (X : St S w0 w L R) (hL : Under L0 R0 L R) (hQ : NoLook Q)
    (hv : ∀ w', Kept L0 R0 w' → (execOp a.eval o).run P w' = .ok (.value v) w') (h : SQ P ops Q L0 R0 brk eff lds r (a.put o.dst v) w) : SQ P ops Q L0 R0 brk eff lds (i :: r) a w := by
  rw [Bool.and_eq_true, Bool.not_eq_true'] at he
  unfold SQ Seq
  rw [if_neg (by rw [he.1]; decide), if_pos he.2]
  exact ⟨o, v, oAt_get hi, .inl ⟨hw, hv⟩, X.keeps hL, fun c a w hh => hQ.all c a o.dst v w hh, h⟩
/-- One whose guard says no. -/
theorem q_skip (hi : oAt ops i = some o) (he : (!eff.contains i && !lds.contains i) = true) (hw : Region.wanted o (yielded ops a.tmps) = false) (hQ : NoLook Q)
    (h : SQ P ops Q L0 R0 brk eff lds r (a.put o.dst undef) w) : SQ P ops Q L0 R0 brk eff lds (i :: r) a w := by
  rw [Bool.and_eq_true, Bool.not_eq_true', Bool.not_eq_true'] at he
  unfold SQ Seq
  rw [if_neg (by rw [he.1]; decide), if_neg (by rw [he.2]; decide)]
  exact ⟨o, undef, oAt_get hi, .inr ⟨hw, rfl⟩, fun c a w hh => hQ.all c a o.dst undef w hh, h⟩
/-- One that yields in whatever world. -/
theorem q_pure {v : Value} (hi : oAt ops i = some o) (he : (!eff.contains i && !lds.contains i) = true) (hw : Region.wanted o (yielded ops a.tmps) = true) (hQ : NoLook Q)
    (hv : ∀ w', (execOp a.eval o).run P w' = .ok (.value v) w') (h : SQ P ops Q L0 R0 brk eff lds r (a.put o.dst v) w) : SQ P ops Q L0 R0 brk eff lds (i :: r) a w := by
  rw [Bool.and_eq_true, Bool.not_eq_true', Bool.not_eq_true'] at he
  unfold SQ Seq
  rw [if_neg (by rw [he.1]; decide), if_neg (by rw [he.2]; decide)]
  exact ⟨o, v, oAt_get hi, .inl ⟨hw, fun w' _ => hv w'⟩, fun c a w hh => hQ.all c a o.dst v w hh, h⟩
theorem q_move {x : Operand} {v : Value} (hi : oAt ops i = some o) (ho : o.op = .move x) (hx : EvR a x v) (he : (!eff.contains i && !lds.contains i) = true) (hw : Region.wanted o (yielded ops a.tmps) = true) (hQ : NoLook Q)
    (h : SQ P ops Q L0 R0 brk eff lds r (a.put o.dst v) w) : SQ P ops Q L0 R0 brk eff lds (i :: r) a w :=
  q_pure hi he hw hQ (fun w' => by unfold execOp; simp only [ho, hx.eval]; rfl) h
theorem q_assign {x : Operand} {v : Value} (hi : oAt ops i = some o) (ho : o.op = .assign x) (hx : EvR a x v) (he : (!eff.contains i && !lds.contains i) = true) (hw : Region.wanted o (yielded ops a.tmps) = true) (hQ : NoLook Q)
    (h : SQ P ops Q L0 R0 brk eff lds r (a.put o.dst v) w) : SQ P ops Q L0 R0 brk eff lds (i :: r) a w :=
  q_pure hi he hw hQ (fun w' => by unfold execOp; simp only [ho, hx.eval]; rfl) h
theorem q_nilCheck {x : Operand} {p : Addr} (hi : oAt ops i = some o) (ho : o.op = .nilCheck x) (hx : EvR a x (.pointer (some p))) (he : (!eff.contains i && !lds.contains i) = true) (hw : Region.wanted o (yielded ops a.tmps) = true) (hQ : NoLook Q)
    (h : SQ P ops Q L0 R0 brk eff lds r (a.put o.dst (.pointer (some p))) w) : SQ P ops Q L0 R0 brk eff lds (i :: r) a w :=
  q_pure hi he hw hQ (fun w' => by unfold execOp; simp only [ho, hx.eval]; rfl) h
theorem q_extract {x : Operand} {k : Nat} {vs : List Value} {v : Value} (hi : oAt ops i = some o) (ho : o.op = .extract x k) (hx : EvR a x (.tuple vs.toArray)) (hv : nth vs k = some v) (he : (!eff.contains i && !lds.contains i) = true) (hw : Region.wanted o (yielded ops a.tmps) = true) (hQ : NoLook Q)
    (h : SQ P ops Q L0 R0 brk eff lds r (a.put o.dst v) w) : SQ P ops Q L0 R0 brk eff lds (i :: r) a w :=
  q_pure hi he hw hQ (fun w' => by
    rw [nth_get] at hv
    unfold execOp; simp only [ho, hx.eval, Instr.extract]; simp [hv]) h
/-- Where a field lies. -/
class FieldT (P : Program) (T : TypeId) (k : Nat) (d : outParam Nat) : Prop where
  at_ : ∀ (g i : Nat) (w : World), (Instr.fieldAt T (.pointer (some ⟨g, i, none⟩)) k).run P w = .ok (.pointer (some ⟨g, i + d, none⟩)) w
theorem q_field {x : Operand} {T : TypeId} {k d g n : Nat} (hi : oAt ops i = some o) (ho : o.op = .fieldAddr T x k) (hx : EvR a x (.pointer (some ⟨g, n, none⟩))) [hF : FieldT P T k d] (he : (!eff.contains i && !lds.contains i) = true) (hw : Region.wanted o (yielded ops a.tmps) = true) (hQ : NoLook Q)
    (h : SQ P ops Q L0 R0 brk eff lds r (a.put o.dst (.pointer (some ⟨g, n + d, none⟩))) w) : SQ P ops Q L0 R0 brk eff lds (i :: r) a w :=
  q_pure hi he hw hQ (fun w' => by unfold execOp; simp only [ho, hx.eval, Sem.run_bind, hF.at_, Result.andThen_ok, Sem.run_pure]) h
theorem q_load1 {x : Operand} {T : TypeId} {g n : Nat} (hi : oAt ops i = some o) (ho : o.op = .load T x) (hx : EvR a x (.pointer (some ⟨g, n, none⟩))) [OneT P T] {cs : List Value} {t : TypeId} (hm : ⟨g, cs, t⟩ ∈ L0) {v : Value} (hv : nth cs n = some v)
    (he : (!eff.contains i && lds.contains i) = true) (hw : Region.wanted o (yielded ops a.tmps) = true) (X : St S w0 w L R) (hL : Under L0 R0 L R) (hQ : NoLook Q)
    (h : SQ P ops Q L0 R0 brk eff lds r (a.put o.dst v) w) : SQ P ops Q L0 R0 brk eff lds (i :: r) a w :=
  q_read hi he hw X hL hQ (fun w' hw' => by
    have hc : w'.cell? ⟨g, n, none⟩ = some v := by rw [(hw'.l _ hm).cell n, ← hv, nth_get]; simp
    unfold execOp
    simp only [ho, hx.eval, Instr.loadAt, Instr.sureAddr, Sem.run_bind, Sem.run_pure, Result.andThen_ok, run_loadOne (T := T) hc]) h
theorem q_loadN {x : Operand} {T : TypeId} {g n m : Nat} (hi : oAt ops i = some o) (ho : o.op = .load T x) (hx : EvR a x (.pointer (some ⟨g, n, none⟩))) [hT : AggT P T m] {cs : List Value} {t : TypeId} (hm : ⟨g, cs, t⟩ ∈ L0) (hn : n + m ≤ cs.length)
    (he : (!eff.contains i && lds.contains i) = true) (hw : Region.wanted o (yielded ops a.tmps) = true) (X : St S w0 w L R) (hL : Under L0 R0 L R) (hQ : NoLook Q)
    (h : SQ P ops Q L0 R0 brk eff lds r (a.put o.dst (.agg ((cs.drop n).take m).toArray)) w) : SQ P ops Q L0 R0 brk eff lds (i :: r) a w :=
  q_read hi he hw X hL hQ (fun w' hw' => by
    obtain ⟨⟨d, hu, hd⟩, hs⟩ := hT
    have hr : (loadVar T ⟨g, n, none⟩).run P w' = .ok (.agg ((cs.drop n).take m).toArray) w' := run_loadVar_mid w' g n T ((cs.drop n).take m) d (fun j v hj => by
      rw [(hw'.l _ hm).cell]
      rw [List.getElem?_take] at hj
      split at hj
      · rw [List.getElem?_drop] at hj; simpa using hj
      · cases hj) hu hd (by rw [hs, List.length_take, List.length_drop]; congr 1; omega)
    unfold execOp
    simp only [ho, hx.eval, Instr.loadAt, Instr.sureAddr, Sem.run_bind, Sem.run_pure, Result.andThen_ok, hr]) h
theorem flat_nth {α : Type} {f : α → List Value} {c : Nat} (hF : ∀ x, (f x).length = c) : ∀ {l : List α} {k d : Nat} (hk : k < l.length), d < c → (l.flatMap f)[k * c + d]? = (f l[k])[d]?
  | x :: l, 0, d, hk, hd => by
    rw [List.flatMap_cons, Nat.zero_mul, Nat.zero_add, List.getElem?_append_left (by rw [hF]; exact hd)]; rfl
  | x :: l, k + 1, d, hk, hd => by
    rw [List.flatMap_cons, List.getElem?_append_right (by rw [hF, Nat.add_mul]; omega), hF, show (k + 1) * c + d - c = k * c + d by rw [Nat.add_mul]; omega]
    exact flat_nth hF (l := l) (Nat.lt_of_succ_lt_succ hk) hd
theorem Sl.elem {α : Type} {f : α → List Value} {c : Nat} (hF : ∀ x, (f x).length = c) {w : World} {b off cap n k d : Nat} {l : List α} (h : Sl w (.slice (some ⟨b, off, none⟩) n cap) l.length (l.flatMap f)) (hk : k < l.length) (hd : d < c) : w.cell? ⟨b, off + k * c + d, none⟩ = (f l[k])[d]? := by
  have hfn := flat_nth hF (d := d) hk hd
  have hlt : d < (f l[k]).length := by rw [hF]; exact hd
  rw [List.getElem?_eq_getElem hlt] at hfn ⊢
  obtain ⟨a, cap', hv, h1, h2, h3⟩ := h
  rcases h3 with h3 | ⟨b', off', ha, hc⟩
  · rw [h3] at hfn; cases hfn
  · cases hv
    cases ha
    rw [Nat.add_assoc]
    exact hc _ _ hfn
/-- A cell of an element of a list that is read. -/
theorem q_elem1 {α : Type} {f : α → List Value} {c : Nat} (hF : ∀ x, (f x).length = c) {l : List α} {k : Nat} (hk : k < l.length) (d : Nat) {x : Operand} {T : TypeId} {b off cap n : Nat} (hi : oAt ops i = some o) (ho : o.op = .load T x) (hm : Rd.of f (.slice (some ⟨b, off, none⟩) n cap) l ∈ R0) (hx : EvR a x (.pointer (some ⟨b, off + k * c + d, none⟩))) [OneT P T] (hd : d < c) {v : Value} (hv : nth (f l[k]) d = some v)
    (he : (!eff.contains i && lds.contains i) = true) (hw : Region.wanted o (yielded ops a.tmps) = true) (X : St S w0 w L R) (hL : Under L0 R0 L R) (hQ : NoLook Q)
    (h : SQ P ops Q L0 R0 brk eff lds r (a.put o.dst v) w) : SQ P ops Q L0 R0 brk eff lds (i :: r) a w :=
  q_read hi he hw X hL hQ (fun w' hw' => by
    have hc : w'.cell? ⟨b, off + k * c + d, none⟩ = some v := by
      rw [Sl.elem hF (hw'.r _ hm) hk hd, ← hv, nth_get]
    unfold execOp
    simp only [ho, hx.eval, Instr.loadAt, Instr.sureAddr, Sem.run_bind, Sem.run_pure, Result.andThen_ok, run_loadOne (T := T) hc]) h
/-- An element of a list that is read, whole. -/
theorem q_elemN {α : Type} {f : α → List Value} {c : Nat} (hF : ∀ x, (f x).length = c) {l : List α} {k : Nat} (hk : k < l.length) {x : Operand} {T : TypeId} {b off cap n : Nat} (hi : oAt ops i = some o) (ho : o.op = .load T x) (hm : Rd.of f (.slice (some ⟨b, off, none⟩) n cap) l ∈ R0) (hx : EvR a x (.pointer (some ⟨b, off + k * c, none⟩))) [hT : AggT P T c]
    (he : (!eff.contains i && lds.contains i) = true) (hw : Region.wanted o (yielded ops a.tmps) = true) (X : St S w0 w L R) (hL : Under L0 R0 L R) (hQ : NoLook Q)
    (h : SQ P ops Q L0 R0 brk eff lds r (a.put o.dst (.agg (f l[k]).toArray)) w) : SQ P ops Q L0 R0 brk eff lds (i :: r) a w :=
  q_read hi he hw X hL hQ (fun w' hw' => by
    obtain ⟨⟨d, hu, hd⟩, hs⟩ := hT
    have hr : (loadVar T ⟨b, off + k * c, none⟩).run P w' = .ok (.agg (f l[k]).toArray) w' := run_loadVar_mid w' b (off + k * c) T (f l[k]) d (fun j v hj => by
      have hlt : j < c := by rw [← hF l[k]]; exact (List.getElem?_eq_some_iff.1 hj).1
      rw [Sl.elem hF (hw'.r _ hm) hk hlt]; exact hj) hu hd (by rw [hs, hF])
    unfold execOp
    simp only [ho, hx.eval, Instr.loadAt, Instr.sureAddr, Sem.run_bind, Sem.run_pure, Result.andThen_ok, hr]) h
/-- A call of a Go function. -/
theorem q_call (f : FuncId) (xs : List Operand) (ts : Array TypeId) (hi : oAt ops i = some o) (ho : o.op = .call { callee := .value (.func f), args := xs.toArray, argTypes := ts }) (args : Array Value) (ha : (xs.map a.eval).toArray = args)
    (hb : ∃ fn c, P.funcs[f]? = some fn ∧ (fn.name == "runtime.NumGoroutine") = false ∧ fn.body = some c) (he : eff.contains i = true) (hw : Region.wanted o (yielded ops a.tmps) = true) {F : Ending → World → Prop}
    (h : Calls P f args w F) (hK : ∀ e w', F e w' → ∃ v, e = .returned v ∧ (brk.contains i = false → Kept L0 R0 w → Kept L0 R0 w') ∧ SQ P ops Q L0 R0 brk eff lds r (a.put o.dst v) w') : SQ P ops Q L0 R0 brk eff lds (i :: r) a w :=
  q_eff hi he hw fun K hk => by
    subst ha
    obtain ⟨fn, c, h1, h2, h3⟩ := hb
    have hr : (execOp a.eval o).run P w = .ok (.enter f (xs.map a.eval).toArray) w := by
      unfold execOp
      simp [ho, resolve, invoke, Deferred.ofValue, Act.eval, run_enter h1 h2 h3]
    unfold Oper.wp
    rw [hr, Oper.upon_enter]
    exact h.mono fun e w' hF => by obtain ⟨v, rfl, hs, hq⟩ := hK e w' hF; exact hk _ _ hs hq
theorem q_store1 (A B : List Ent) {x y : Operand} {T : TypeId} {g n : Nat} {cs : List Value} {t : TypeId} (hi : oAt ops i = some o) (ho : o.op = .store T x y) (hx : EvR a x (.pointer (some ⟨g, n, none⟩))) [OneT P T] {v : Value} (hy : EvR a y v)
    (X : St S w0 w (A ++ ⟨g, cs, t⟩ :: B) R) (hn : n < cs.length) (h1 : v.oneCell' = true) (hc : v.cells = #[v]) (he : eff.contains i = true) (hw : Region.wanted o (yielded ops a.tmps) = true)
    (h : ∀ w', St S w0 w' (A ++ ⟨g, upd n [v] cs, t⟩ :: B) R → (brk.contains i = false → Kept L0 R0 w → Kept L0 R0 w') ∧ SQ P ops Q L0 R0 brk eff lds r (a.put o.dst undef) w') : SQ P ops Q L0 R0 brk eff lds (i :: r) a w :=
  q_eff hi he hw fun K hk => by
    have ht := X.there (g := g) (cs := cs) (t := t) (i := n) (n := 1) (by simp) (by omega)
    obtain ⟨h2, h3⟩ := h _ (by simpa using X.wrote A B n [v] (show n + 1 ≤ cs.length from hn))
    unfold Oper.wp execOp
    simp only [ho, hx.eval, hy.eval, Instr.storeAt, Instr.sureAddr, Sem.run_bind, Sem.run_pure, Result.andThen_ok, run_storeOne (T := T) ht h1 hc]
    exact hk _ _ h2 h3
theorem q_storeN (A B : List Ent) {x y : Operand} {T : TypeId} {g n m : Nat} {cs : List Value} {t : TypeId} (hi : oAt ops i = some o) (ho : o.op = .store T x y) (hx : EvR a x (.pointer (some ⟨g, n, none⟩))) [hT : AggT P T m] {vs : List Value} (hy : a.eval y = .agg vs.toArray)
    (X : St S w0 w (A ++ ⟨g, cs, t⟩ :: B) R) (hm : vs.length = m) (hn : n + vs.length ≤ cs.length) (h1 : vs.all (·.oneCell') = true) (he : eff.contains i = true) (hw : Region.wanted o (yielded ops a.tmps) = true)
    (h : ∀ w', St S w0 w' (A ++ ⟨g, upd n vs cs, t⟩ :: B) R → (brk.contains i = false → Kept L0 R0 w → Kept L0 R0 w') ∧ SQ P ops Q L0 R0 brk eff lds r (a.put o.dst undef) w') : SQ P ops Q L0 R0 brk eff lds (i :: r) a w :=
  q_eff hi he hw fun K hk => by
    obtain ⟨h2, h3⟩ := h _ (by simpa using X.wrote A B n vs hn)
    exact wp_store_mid T x y ho g n vs.toArray hx.eval hy (X.there (cs := cs) (t := t) (by simp) (by simpa using hn)) (by rw [hT.size]; simp [hm]) (by simpa using h1) (hk _ _ (by simpa using h2) (by simpa using h3))
/-- A new block of noughts. -/
theorem q_alloc {T : TypeId} (hi : oAt ops i = some o) (ho : o.op = .alloc T) {cs : List Value} [hT : ZeroT P T cs] (X : St S w0 w L R) (hL : Under L0 R0 L R) (he : eff.contains i = true) (hw : Region.wanted o (yielded ops a.tmps) = true)
    (h : ∀ g w', St S w0 w' (⟨g, cs, T⟩ :: L) R → Under L0 R0 (⟨g, cs, T⟩ :: L) R → SQ P ops Q L0 R0 brk eff lds r (a.put o.dst (.pointer (some ⟨g, 0, none⟩))) w') : SQ P ops Q L0 R0 brk eff lds (i :: r) a w :=
  q_eff hi he hw fun K hk => by
    have hz := hT.zero
    cases hq : P.info? T with
    | none => simp [hq] at hz
    | some x =>
      cases hs : x.zero with
      | none => simp [hq, hs] at hz
      | some z =>
        have hc : z.cells = cs.toArray := by simpa [hq, hs] using hz
        have hL' : Under L0 R0 ((⟨w.heap.size, cs, T⟩ : Ent) :: L) R := ⟨hL.l.cons _, hL.r⟩
        unfold Oper.wp execOp
        simp only [ho, Instr.alloc, zeroValue, typeInfo, newVar, newRow, newObj, Sem.run_bind, Sem.run_pure, Result.andThen_ok]
        simp [hq, hs, hc]
        exact hk _ _ (fun _ _ => (X.alloc cs T).keeps hL') (h _ _ (X.alloc cs T) hL')
end
end Wb

namespace Wb
open Go Go.RowKit
set_option linter.unusedVariables false
set_option linter.unusedSimpArgs false
section
variable {P : Program} {ops : Array Oper} {Q : Exit → Act → World → Prop} {md : Region.Mode} {S : World → Prop} {brk eff lds : List Nat}
/-- The same exits, another end. -/
def endE (Q : Exit → Act → World → Prop) (E : Act → World → Prop) : Exit → Act → World → Prop
  | .normal => E
  | e => Q e
theorem wpOp_congQ {Q' : Exit → Act → World → Prop} {i : Nat} {K : Act → World → Prop} {a : Act} {w : World} (hp : ∀ c, Q (.panic c) = Q' (.panic c)) (ho : Q .outgrown = Q' .outgrown) (h : wpOp P ops Q i K a w) : wpOp P ops Q' i K a w := by
  have hl : LetsOut Q = LetsOut Q' := by unfold LetsOut; rw [ho]
  unfold wpOp at *
  split
  · simpa [*] using h
  · rename_i o hoi
    simp only [hoi] at h
    split
    · rename_i hw
      simp only [hw, if_true] at h
      refine h.imp (fun h => ?_) (fun h => ⟨h.1, hl ▸ h.2⟩)
      unfold Oper.wp at *
      generalize (execOp a.eval o).run P w = r at *
      cases r with
      | ok n w' =>
        cases n <;> simp only [Oper.upon] at h ⊢ <;> first | exact h | exact Calls.mono h (fun e w'' he => by cases e <;> first | exact he | (simp only [← hp]; exact he) | (simp only [← hl]; exact he))
      | halt x w' => cases x <;> simp only [Oper.upon] at h ⊢ <;> first | exact h | (rw [← hp]; exact h)
    · rename_i hw; simp only [hw] at h; exact h
def marks (x : Array Bool) : List Nat → Array Bool
  | [] => x
  | i :: r => marks (x.setIfInBounds i true) r
/-- A beginning of an order. -/
def begOk (md : Region.Mode) (ops : Array Oper) (brk eff lds : List Nat) : Array Bool → List Nat → Bool
  | _, [] => true
  | x, i :: r => (if eff.contains i = true then Region.ready md ops x == [i] else (Region.ready md ops x).contains i && Region.free md ops x i && (!lds.contains i || brk.all (fun b => waitB md ops b i))) && begOk md ops brk eff lds (x.setIfInBounds i true) r
theorem Seq.anyE {E : Act → World → Prop} (hs : Region.noSelect ops = true) (n : Nat) : ∀ (r : List Nat) (x : Array Bool) (a : Act) (w : World), begOk md ops brk eff lds x r = true → Seq P ops (endE Q E) S brk eff lds r a w → (∀ b v, E b v → AnyS P md ops Q S brk n (marks x r) b v) → AnyS P md ops Q S brk (r.length + n) x a w
  | [], x, a, w, _, h, hE => by rw [List.length_nil, Nat.zero_add]; exact hE a w h
  | i :: r, x, a, w, hk, h, hE => by
    unfold begOk at hk
    rw [Bool.and_eq_true] at hk
    obtain ⟨h1, h2⟩ := hk
    unfold Seq at h
    rw [List.length_cons, Nat.add_right_comm]
    split at h
    · rename_i he
      rw [if_pos he] at h1
      have hr : Region.ready md ops x = [i] := by simpa using h1
      refine ⟨fun e => (by rw [hr] at e; cases e), fun j hj => ?_⟩
      rw [hr] at hj
      obtain rfl : j = i := by simpa using hj
      exact wpOp_mono (fun b v hh => ⟨hh.1, Seq.anyE hs n r _ b v h2 hh.2 hE⟩) (wpOp_congQ (Q := endE Q E) (Q' := Q) (fun _ => rfl) rfl h)
    · rename_i he
      rw [if_neg he, Bool.and_eq_true, Bool.and_eq_true] at h1
      obtain ⟨⟨h3, h4⟩, h5⟩ := h1
      split at h
      · rename_i hl
        rw [hl, Bool.not_true, Bool.false_or] at h5
        obtain ⟨o, v, hi, hy, hS, hQ, hn⟩ := h
        exact AnyS.take (Q := Q) hi (Region.noSelect_spec hs) hQ (.inl ⟨rfl, h5⟩) (r.length + n) x a w (fun j oj hj hne hun hno => Region.free_spec hi h4 j oj hj hne hun hno) (by simpa using h3) hy hS (Seq.anyE hs n r _ _ _ h2 hn hE)
      · obtain ⟨o, v, hi, hy, hQ, hn⟩ := h
        exact AnyS.take (Q := Q) hi (Region.noSelect_spec hs) hQ (.inr fun _ => trivial) (r.length + n) x a w (fun j oj hj hne hun hno => Region.free_spec hi h4 j oj hj hne hun hno) (by simpa using h3) hy trivial (Seq.anyE hs n r _ _ _ h2 hn hE)
/-- An order, as a tree: where two effects may come, both ways. -/
inductive Tr where
  | fin (p : List Nat)
  | fork (p : List Nat) (t u : Tr)
def Tr.len : Tr → Nat
  | .fin p => p.length
  | .fork p t _ => p.length + t.len
def Tr.head : Tr → Option Nat
  | .fin p => p.head?
  | .fork p _ _ => p.head?
def SeqT (P : Program) (ops : Array Oper) (Q : Exit → Act → World → Prop) (S : World → Prop) (brk eff lds : List Nat) : Tr → Act → World → Prop
  | .fin p, a, w => Seq P ops Q S brk eff lds p a w
  | .fork p t u, a, w => Seq P ops (endE Q fun a w => SeqT P ops Q S brk eff lds t a w ∧ SeqT P ops Q S brk eff lds u a w) S brk eff lds p a w
/-- A beginning whose first is an effect that has been told to be one of those that are ready. -/
def hdOk (md : Region.Mode) (ops : Array Oper) (brk eff lds : List Nat) (x : Array Bool) : List Nat → Bool
  | [] => false
  | i :: r => eff.contains i && begOk md ops brk eff lds (x.setIfInBounds i true) r
def trOk (md : Region.Mode) (ops : Array Oper) (brk eff lds : List Nat) : Bool → Array Bool → Tr → Bool
  | hd, x, .fin p => (if hd then hdOk md ops brk eff lds x p else begOk md ops brk eff lds x p) && (Region.ready md ops (marks x p)).isEmpty
  | hd, x, .fork p t u => (if hd then hdOk md ops brk eff lds x p else begOk md ops brk eff lds x p) &&
      ((t.head.toList ++ u.head.toList) == Region.ready md ops (marks x p) && (t.len == u.len && (trOk md ops brk eff lds true (marks x p) t && trOk md ops brk eff lds true (marks x p) u)))
/-- What is shown of a tree: all its orders; or of what begins with its head. -/
def Shows (P : Program) (md : Region.Mode) (ops : Array Oper) (Q : Exit → Act → World → Prop) (S : World → Prop) (brk : List Nat) (hd : Bool) (n : Nat) (h : Option Nat) (x : Array Bool) (a : Act) (w : World) : Prop :=
  if hd then ∃ i m, h = some i ∧ n = m + 1 ∧ wpOp P ops Q i (fun b v => (brk.contains i = false → S w → S v) ∧ AnyS P md ops Q S brk m (x.setIfInBounds i true) b v) a w else AnyS P md ops Q S brk n x a w
theorem Seq.shows {E : Act → World → Prop} (hs : Region.noSelect ops = true) (hd : Bool) (n : Nat) (p : List Nat) (x : Array Bool) (a : Act) (w : World)
    (hk : (if hd then hdOk md ops brk eff lds x p else begOk md ops brk eff lds x p) = true) (h : Seq P ops (endE Q E) S brk eff lds p a w) (hE : ∀ b v, E b v → AnyS P md ops Q S brk n (marks x p) b v) :
    Shows P md ops Q S brk hd (p.length + n) p.head? x a w := by
  unfold Shows
  cases hd with
  | false => exact Seq.anyE hs n p x a w hk h hE
  | true =>
    cases p with
    | nil => cases hk
    | cons i r =>
      simp only [if_true] at hk ⊢
      unfold hdOk at hk
      rw [Bool.and_eq_true] at hk
      unfold Seq at h
      rw [if_pos hk.1] at h
      exact ⟨i, r.length + n, rfl, by rw [List.length_cons]; omega, wpOp_mono (fun b v hh => ⟨hh.1, Seq.anyE hs n r _ b v hk.2 hh.2 hE⟩) (wpOp_congQ (Q := endE Q E) (Q' := Q) (fun _ => rfl) rfl h)⟩
theorem endE_self : endE Q (Q .normal) = Q := by funext e; cases e <;> rfl
theorem SeqT.shows (hs : Region.noSelect ops = true) : ∀ (t : Tr) (hd : Bool) (x : Array Bool) (a : Act) (w : World), trOk md ops brk eff lds hd x t = true → SeqT P ops Q S brk eff lds t a w → Shows P md ops Q S brk hd t.len t.head x a w
  | .fin p, hd, x, a, w, hk, h => by
    unfold trOk at hk
    rw [Bool.and_eq_true] at hk
    unfold SeqT at h
    rw [← endE_self (Q := Q)] at h
    exact Seq.shows hs hd 0 p x a w hk.1 h fun b v hb => ⟨List.isEmpty_iff.1 hk.2, hb⟩
  | .fork p t u, hd, x, a, w, hk, h => by
    unfold trOk at hk
    rw [Bool.and_eq_true, Bool.and_eq_true, Bool.and_eq_true, Bool.and_eq_true] at hk
    obtain ⟨h1, h2, h3, h4, h5⟩ := hk
    unfold SeqT at h
    refine Seq.shows hs hd t.len p x a w h1 h fun b v hb => ?_
    have ht := SeqT.shows hs t true _ b v h4 hb.1
    have hu := SeqT.shows hs u true _ b v h5 hb.2
    unfold Shows at ht hu
    rw [if_pos rfl] at ht hu
    obtain ⟨i, m, hi, hm, hwi⟩ := ht
    obtain ⟨j, k, hj, hk, hwj⟩ := hu
    have h6 : t.len = u.len := by simpa using h3
    obtain rfl : m = k := by omega
    rw [hi, hj] at h2
    have hr : Region.ready md ops (marks x p) = [i, j] := (show [i, j] = Region.ready md ops (marks x p) from beq_iff_eq.1 h2).symm
    rw [hm]
    refine ⟨fun e => (by rw [hr] at e; cases e), fun l hl => ?_⟩
    rw [hr] at hl
    rcases List.mem_cons.1 hl with rfl | hl
    · exact hwi
    · obtain rfl : l = j := by simpa using hl
      exact hwj
end
section
variable {P : Program} {ops : Array Oper} {Q : Exit → Act → World → Prop} {L0 : List Ent} {brk eff lds : List Nat} {i : Nat} {r : List Nat} {o : Oper} {a : Act} {S : List Nat} {w0 w : World} {L : List Ent} {R R0 : List Rd}
abbrev SQT (P : Program) (ops : Array Oper) (Q : Exit → Act → World → Prop) (L0 : List Ent) (R0 : List Rd) (brk eff lds : List Nat) : Tr → Act → World → Prop := SeqT P ops Q (Kept L0 R0) brk eff lds
/-- THE BEGINNING of a tree. -/
theorem q_tree {id : Nat} (k : Nat) (brk eff lds : List Nat) (t : Tr) (X : St S w0 w L R) (hm : P.follows .mixedOrders = true) (hs : (Region.noSelect ops && (t.len == ops.size && trOk .any ops brk eff lds false (Array.replicate ops.size false) t)) = true) (hQ : NoLook Q)
    (h : NoLook Q → St S w0 w.drew L R → Under (L.take k) R L R → SQT P ops Q (L.take k) R brk eff lds t a w.drew) : (Code.region id ops true).wp P Q a w := by
  rw [Bool.and_eq_true, Bool.and_eq_true] at hs
  obtain ⟨h1, h2, h3⟩ := hs
  have := SeqT.shows h1 t false _ a _ h3 (h hQ X.drew ⟨List.take_sublist _ _, fun _ h => h⟩)
  unfold Shows at this
  rw [if_neg (by decide), show t.len = ops.size by simpa using h2] at this
  exact wp_region_any hm (AnyS.any _ _ _ _ this)
theorem NoLook.endE (h : NoLook Q) (E : Act → World → Prop) : NoLook (endE Q E) := h
theorem t_fork {p : List Nat} {t u : Tr} (h : NoLook (endE Q fun a w => SQT P ops Q L0 R0 brk eff lds t a w ∧ SQT P ops Q L0 R0 brk eff lds u a w) → SQ P ops (endE Q fun a w => SQT P ops Q L0 R0 brk eff lds t a w ∧ SQT P ops Q L0 R0 brk eff lds u a w) L0 R0 brk eff lds p a w) (hQ : NoLook Q) : SQT P ops Q L0 R0 brk eff lds (.fork p t u) a w := h (hQ.endE _)
theorem t_fin {p : List Nat} (h : SQ P ops Q L0 R0 brk eff lds p a w) : SQT P ops Q L0 R0 brk eff lds (.fin p) a w := h
theorem t_two {A B : Act → World → Prop} (h1 : A a w) (h2 : B a w) : SQ P ops (endE Q fun a w => A a w ∧ B a w) L0 R0 brk eff lds [] a w := ⟨h1, h2⟩
/-- An effect whose guard says no. -/
theorem q_skipE (hi : oAt ops i = some o) (he : eff.contains i = true) (hw : Region.wanted o (yielded ops a.tmps) = false)
    (h : SQ P ops Q L0 R0 brk eff lds r (a.put o.dst undef) w) : SQ P ops Q L0 R0 brk eff lds (i :: r) a w := by
  unfold SQ Seq
  rw [if_pos he]
  unfold wpOp
  rw [oAt_get hi]
  simp only [hw]
  exact ⟨fun _ h => h, h⟩
/-- A reading whose guard says no. -/
theorem q_skipL (hi : oAt ops i = some o) (he : (!eff.contains i && lds.contains i) = true) (hw : Region.wanted o (yielded ops a.tmps) = false) (X : St S w0 w L R) (hL : Under L0 R0 L R) (hQ : NoLook Q)
    (h : SQ P ops Q L0 R0 brk eff lds r (a.put o.dst undef) w) : SQ P ops Q L0 R0 brk eff lds (i :: r) a w := by
  rw [Bool.and_eq_true, Bool.not_eq_true'] at he
  unfold SQ Seq
  rw [if_neg (by rw [he.1]; decide), if_pos he.2]
  exact ⟨o, undef, oAt_get hi, .inr ⟨hw, rfl⟩, X.keeps hL, fun c a w hh => hQ.all c a o.dst undef w hh, h⟩
/-- A store past what is kept. -/
theorem q_put1 (A B : List Ent) {x y : Operand} {T : TypeId} {g n : Nat} {cs : List Value} {t : TypeId} (hi : oAt ops i = some o) (ho : o.op = .store T x y) (hx : EvR a x (.pointer (some ⟨g, n, none⟩))) [OneT P T] {v : Value} (hy : EvR a y v)
    (X : St S w0 w (A ++ ⟨g, cs, t⟩ :: B) R) (hn : n < cs.length) (h1 : v.oneCell' = true) (hc : v.cells = #[v]) (he : eff.contains i = true) (hw : Region.wanted o (yielded ops a.tmps) = true) (hL : Under L0 R0 (A ++ ⟨g, cs, t⟩ :: B) R) (hA : L0.Sublist (A ++ B))
    (h : ∀ w', St S w0 w' (A ++ ⟨g, upd n [v] cs, t⟩ :: B) R → Under L0 R0 (A ++ ⟨g, upd n [v] cs, t⟩ :: B) R → SQ P ops Q L0 R0 brk eff lds r (a.put o.dst undef) w') : SQ P ops Q L0 R0 brk eff lds (i :: r) a w :=
  q_store1 A B hi ho hx hy X hn h1 hc he hw fun w' X2 => by
    have h3 : Under L0 R0 (A ++ ⟨g, upd n [v] cs, t⟩ :: B) R := ⟨hA.trans (List.Sublist.append_left (List.sublist_cons_self _ _) _), hL.r⟩
    exact ⟨fun _ _ => X2.keeps h3, h w' X2 h3⟩
theorem q_putN (A B : List Ent) {x y : Operand} {T : TypeId} {g n m : Nat} {cs : List Value} {t : TypeId} (hi : oAt ops i = some o) (ho : o.op = .store T x y) (hx : EvR a x (.pointer (some ⟨g, n, none⟩))) [hT : AggT P T m] {vs : List Value} (hy : a.eval y = .agg vs.toArray)
    (X : St S w0 w (A ++ ⟨g, cs, t⟩ :: B) R) (hm : vs.length = m) (hn : n + vs.length ≤ cs.length) (h1 : vs.all (·.oneCell') = true) (he : eff.contains i = true) (hw : Region.wanted o (yielded ops a.tmps) = true) (hL : Under L0 R0 (A ++ ⟨g, cs, t⟩ :: B) R) (hA : L0.Sublist (A ++ B))
    (h : ∀ w', St S w0 w' (A ++ ⟨g, upd n vs cs, t⟩ :: B) R → Under L0 R0 (A ++ ⟨g, upd n vs cs, t⟩ :: B) R → SQ P ops Q L0 R0 brk eff lds r (a.put o.dst undef) w') : SQ P ops Q L0 R0 brk eff lds (i :: r) a w :=
  q_storeN A B hi ho hx hy X hm hn h1 he hw fun w' X2 => by
    have h3 : Under L0 R0 (A ++ ⟨g, upd n vs cs, t⟩ :: B) R := ⟨hA.trans (List.Sublist.append_left (List.sublist_cons_self _ _) _), hL.r⟩
    exact ⟨fun _ _ => X2.keeps h3, h w' X2 h3⟩
end
end Wb

namespace Wb
open Go Go.RowKit
set_option linter.unusedVariables false
set_option linter.unusedSimpArgs false
/-- Cell i of the known block g holds v. -/
inductive ReadA : List Ent → Nat → Nat → Value → Prop where
  | here {g : Nat} {cs : List Value} {t : TypeId} {L : List Ent} {i : Nat} {v : Value} (h : nth cs i = some v) : ReadA (⟨g, cs, t⟩ :: L) g i v
  | there {e : Ent} {L : List Ent} {g i : Nat} {v : Value} (h : ReadA L g i v) : ReadA (e :: L) g i v
/-- n cells of the known block g, from i on. -/
inductive ReadB : List Ent → Nat → Nat → Nat → List Value → Prop where
  | here {g : Nat} {cs : List Value} {t : TypeId} {L : List Ent} {i n : Nat} (h : i + n ≤ cs.length) : ReadB (⟨g, cs, t⟩ :: L) g i n ((cs.drop i).take n)
  | there {e : Ent} {L : List Ent} {g i n : Nat} {vs : List Value} (h : ReadB L g i n vs) : ReadB (e :: L) g i n vs
/-- What is known behind a store of vs into block g, from i on; and all the other blocks. -/
inductive PutA : List Ent → Nat → Nat → List Value → List Ent → List Ent → Prop where
  | here {g : Nat} {cs : List Value} {t : TypeId} {L : List Ent} {i : Nat} {vs : List Value} (h : i + vs.length ≤ cs.length) : PutA (⟨g, cs, t⟩ :: L) g i vs (⟨g, upd i vs cs, t⟩ :: L) L
  | there {e : Ent} {L : List Ent} {g i : Nat} {vs : List Value} {L' B : List Ent} (h : PutA L g i vs L' B) : PutA (e :: L) g i vs (e :: L') (e :: B)
theorem ReadA.spec {L : List Ent} {g i : Nat} {v : Value} (h : ReadA L g i v) : ∃ cs t, (⟨g, cs, t⟩ : Ent) ∈ L ∧ nth cs i = some v := by
  induction h with
  | here h => exact ⟨_, _, .head _, h⟩
  | there _ ih => obtain ⟨cs, t, h1, h2⟩ := ih; exact ⟨cs, t, .tail _ h1, h2⟩
theorem ReadB.spec {L : List Ent} {g i n : Nat} {vs : List Value} (h : ReadB L g i n vs) : ∃ cs t, (⟨g, cs, t⟩ : Ent) ∈ L ∧ i + n ≤ cs.length ∧ vs = (cs.drop i).take n := by
  induction h with
  | here h => exact ⟨_, _, .head _, h, rfl⟩
  | there _ ih => obtain ⟨cs, t, h1, h2⟩ := ih; exact ⟨cs, t, .tail _ h1, h2⟩
theorem PutA.spec {L : List Ent} {g i : Nat} {vs : List Value} {L' D : List Ent} (h : PutA L g i vs L' D) : ∃ A B cs t, L = A ++ ⟨g, cs, t⟩ :: B ∧ L' = A ++ ⟨g, upd i vs cs, t⟩ :: B ∧ D = A ++ B ∧ i + vs.length ≤ cs.length := by
  induction h with
  | here h => exact ⟨[], _, _, _, rfl, rfl, rfl, h⟩
  | there _ ih => obtain ⟨A, B, cs, t, rfl, rfl, rfl, h⟩ := ih; exact ⟨_ :: A, B, cs, t, rfl, rfl, rfl, h⟩
section
variable {P : Program} {ops : Array Oper} {rest : List Oper} {o : Oper} {a : Act} {Q : Exit → Act → World → Prop} {S : List Nat} {w0 w : World} {L : List Ent} {R : List Rd}
theorem c_load1 (hw : Region.wanted o (yielded ops a.tmps) = true) (T : TypeId) (x : Operand) (ho : o.op = .load T x) {g i : Nat} (hx : a.eval x = .pointer (some ⟨g, i, none⟩)) [OneT P T] (X : St S w0 w L R) {v : Value} (he : ReadA L g i v)
    (h : wpList P ops Q rest (a.put o.dst v) w) : wpList P ops Q (o :: rest) a w := by
  obtain ⟨cs, t, h1, h2⟩ := he.spec
  exact m_load1 hw T x ho hx X h1 h2 h
theorem c_loadN (hw : Region.wanted o (yielded ops a.tmps) = true) (T : TypeId) (x : Operand) (ho : o.op = .load T x) {g i : Nat} (hx : a.eval x = .pointer (some ⟨g, i, none⟩)) {n : Nat} [hT : AggT P T n] (X : St S w0 w L R) {vs : List Value} (he : ReadB L g i n vs)
    (h : wpList P ops Q rest (a.put o.dst (.agg vs.toArray)) w) : wpList P ops Q (o :: rest) a w := by
  obtain ⟨cs, t, h1, h2, rfl⟩ := he.spec
  exact m_loadN hw T x ho hx X h1 h2 h
theorem c_store1 (hw : Region.wanted o (yielded ops a.tmps) = true) (T : TypeId) (x y : Operand) (ho : o.op = .store T x y) {g i : Nat} (hx : a.eval x = .pointer (some ⟨g, i, none⟩)) [hT : OneT P T]
    {v : Value} (hy0 : EvR a y v) (X : St S w0 w L R) (h1 : v.oneCell' = true) (hc : v.cells = #[v]) {L' D : List Ent} (hp : PutA L g i [v] L' D)
    (h : ∀ w', St S w0 w' L' R → wpList P ops Q rest (a.put o.dst undef) w') : wpList P ops Q (o :: rest) a w := by
  obtain ⟨A, B, cs, t, rfl, rfl, rfl, hi⟩ := hp.spec
  exact m_store1 A B hw T x y ho hx hy0 X hi h1 hc h
theorem c_storeN (hw : Region.wanted o (yielded ops a.tmps) = true) (T : TypeId) (x y : Operand) (ho : o.op = .store T x y) {g i : Nat} (hx : a.eval x = .pointer (some ⟨g, i, none⟩)) {n : Nat} [hT : AggT P T n]
    {vs : List Value} (hy : a.eval y = .agg vs.toArray) (X : St S w0 w L R) (hn : vs.length = n) (h1 : vs.all (·.oneCell') = true) {L' D : List Ent} (hp : PutA L g i vs L' D)
    (h : ∀ w', St S w0 w' L' R → wpList P ops Q rest (a.put o.dst undef) w') : wpList P ops Q (o :: rest) a w := by
  obtain ⟨A, B, cs, t, rfl, rfl, rfl, hi⟩ := hp.spec
  exact m_storeN A B hw T x y ho hx hy X hn hi h1 h
end
section
variable {P : Program} {ops : Array Oper} {Q : Exit → Act → World → Prop} {L0 : List Ent} {R0 : List Rd} {brk eff lds : List Nat} {i : Nat} {r : List Nat} {o : Oper} {a : Act} {S : List Nat} {w0 w : World} {L : List Ent} {R : List Rd}
theorem d_load1 {x : Operand} {T : TypeId} {g n : Nat} (hi : oAt ops i = some o) (ho : o.op = .load T x) (hx : EvR a x (.pointer (some ⟨g, n, none⟩))) [OneT P T] {v : Value} (hm : ReadA L0 g n v)
    (he : (!eff.contains i && lds.contains i) = true) (hw : Region.wanted o (yielded ops a.tmps) = true) (X : St S w0 w L R) (hL : Under L0 R0 L R) (hQ : NoLook Q)
    (h : SQ P ops Q L0 R0 brk eff lds r (a.put o.dst v) w) : SQ P ops Q L0 R0 brk eff lds (i :: r) a w := by
  obtain ⟨cs, t, h1, h2⟩ := hm.spec
  exact q_load1 hi ho hx h1 h2 he hw X hL hQ h
theorem d_loadN {x : Operand} {T : TypeId} {g n m : Nat} (hi : oAt ops i = some o) (ho : o.op = .load T x) (hx : EvR a x (.pointer (some ⟨g, n, none⟩))) [hT : AggT P T m] {vs : List Value} (hm : ReadB L0 g n m vs)
    (he : (!eff.contains i && lds.contains i) = true) (hw : Region.wanted o (yielded ops a.tmps) = true) (X : St S w0 w L R) (hL : Under L0 R0 L R) (hQ : NoLook Q)
    (h : SQ P ops Q L0 R0 brk eff lds r (a.put o.dst (.agg vs.toArray)) w) : SQ P ops Q L0 R0 brk eff lds (i :: r) a w := by
  obtain ⟨cs, t, h1, h2, rfl⟩ := hm.spec
  exact q_loadN hi ho hx h1 h2 he hw X hL hQ h
/-- A store that ends what is kept: it is one of 'brk'. -/
theorem d_brk1 {x y : Operand} {T : TypeId} {g n : Nat} (hi : oAt ops i = some o) (ho : o.op = .store T x y) (hx : EvR a x (.pointer (some ⟨g, n, none⟩))) [OneT P T] {v : Value} (hy : EvR a y v)
    (X : St S w0 w L R) (h1 : v.oneCell' = true) (hc : v.cells = #[v]) (he : eff.contains i = true) (hb : brk.contains i = true) (hw : Region.wanted o (yielded ops a.tmps) = true) {L' D : List Ent} (hp : PutA L g n [v] L' D)
    (h : ∀ w', St S w0 w' L' R → SQ P ops Q L0 R0 brk eff lds r (a.put o.dst undef) w') : SQ P ops Q L0 R0 brk eff lds (i :: r) a w := by
  obtain ⟨A, B, cs, t, rfl, rfl, rfl, hn⟩ := hp.spec
  exact q_store1 A B hi ho hx hy X hn h1 hc he hw fun w' X2 => ⟨fun hb2 _ => (by rw [hb] at hb2; cases hb2), h w' X2⟩
theorem d_brkN {x y : Operand} {T : TypeId} {g n m : Nat} (hi : oAt ops i = some o) (ho : o.op = .store T x y) (hx : EvR a x (.pointer (some ⟨g, n, none⟩))) [hT : AggT P T m] {vs : List Value} (hy : a.eval y = .agg vs.toArray)
    (X : St S w0 w L R) (hm : vs.length = m) (h1 : vs.all (·.oneCell') = true) (he : eff.contains i = true) (hb : brk.contains i = true) (hw : Region.wanted o (yielded ops a.tmps) = true) {L' D : List Ent} (hp : PutA L g n vs L' D)
    (h : ∀ w', St S w0 w' L' R → SQ P ops Q L0 R0 brk eff lds r (a.put o.dst undef) w') : SQ P ops Q L0 R0 brk eff lds (i :: r) a w := by
  obtain ⟨A, B, cs, t, rfl, rfl, rfl, hn⟩ := hp.spec
  exact q_storeN A B hi ho hx hy X hm hn h1 he hw fun w' X2 => ⟨fun hb2 _ => (by rw [hb] at hb2; cases hb2), h w' X2⟩
/-- A store past what is kept. -/
theorem d_put1 {x y : Operand} {T : TypeId} {g n : Nat} (hi : oAt ops i = some o) (ho : o.op = .store T x y) (hx : EvR a x (.pointer (some ⟨g, n, none⟩))) [OneT P T] {v : Value} (hy : EvR a y v)
    (X : St S w0 w L R) (h1 : v.oneCell' = true) (hc : v.cells = #[v]) (he : eff.contains i = true) (hw : Region.wanted o (yielded ops a.tmps) = true) (hL : Under L0 R0 L R) {L' D : List Ent} (hp : PutA L g n [v] L' D) (hA : L0.Sublist D)
    (h : ∀ w', St S w0 w' L' R → Under L0 R0 L' R → SQ P ops Q L0 R0 brk eff lds r (a.put o.dst undef) w') : SQ P ops Q L0 R0 brk eff lds (i :: r) a w := by
  obtain ⟨A, B, cs, t, rfl, rfl, rfl, hn⟩ := hp.spec
  exact q_put1 A B hi ho hx hy X hn h1 hc he hw hL hA h
theorem d_putN {x y : Operand} {T : TypeId} {g n m : Nat} (hi : oAt ops i = some o) (ho : o.op = .store T x y) (hx : EvR a x (.pointer (some ⟨g, n, none⟩))) [hT : AggT P T m] {vs : List Value} (hy : a.eval y = .agg vs.toArray)
    (X : St S w0 w L R) (hm : vs.length = m) (h1 : vs.all (·.oneCell') = true) (he : eff.contains i = true) (hw : Region.wanted o (yielded ops a.tmps) = true) (hL : Under L0 R0 L R) {L' D : List Ent} (hp : PutA L g n vs L' D) (hA : L0.Sublist D)
    (h : ∀ w', St S w0 w' L' R → Under L0 R0 L' R → SQ P ops Q L0 R0 brk eff lds r (a.put o.dst undef) w') : SQ P ops Q L0 R0 brk eff lds (i :: r) a w := by
  obtain ⟨A, B, cs, t, rfl, rfl, rfl, hn⟩ := hp.spec
  exact q_putN A B hi ho hx hy X hm hn h1 he hw hL hA h
end
end Wb

namespace Go.Proofs.Ytjhmfljlclajnac
open Go.RowKit Wb
set_option linter.unusedVariables false
set_option linter.unusedSimpArgs false
set_option maxRecDepth 100000
set_option maxHeartbeats 8000000

theorem txn_Change_no (t : Txn) (h b : Int) (s : ByteArray) (v : Value) (w : World) (ht : RTxn w v t) (hz : ¬ mayE t h b = 0) :
    Calls Try.prog 7 #[v, .int .i64 h, .int .i64 b, .string s] w fun e w' => e = .returned (.tuple #[v, .int .i64 (mayE t h b)]) ∧ Below w.heap.size w w' := by
  have hMay := fun w' (hb : Below w.heap.size w w') => txn_may t h b _ w' (ht.below hb)
  obtain ⟨vm, vd, vr, rfl, hm, hd, hr, n1, n2, n3⟩ := ht
  obtain ⟨am, cm, rfl, _⟩ := hm.form
  obtain ⟨ad, cd, rfl, _⟩ := hd.form
  obtain ⟨ar, cr, rfl, _⟩ := hr.form
  generalize mayE t h b = E at *
  replace hMay := hid hMay
  clear hm hd hr
  unfold txnV at hMay ⊢
  have X := St.start [] w
  go_enter Try.func7, Try.ntmps7
  go_wp2_with (first | (refine at_mem rfl ?_; (first | (refine at_load rfl ?_; (first | (refine c_load1 rfl _ _ rfl rfl X (by repeat (first | exact ReadA.here rfl | apply ReadA.there)) ?_) | (refine c_loadN rfl _ _ rfl rfl X (by repeat (first | exact ReadB.here (Nat.le_of_ble_eq_true rfl) | apply ReadB.there)) ?_))) | (refine at_store rfl ?_; (first | (refine c_store1 rfl _ _ _ rfl rfl (by first | exact EvR.const _ | exact EvR.tmp rfl rfl) X rfl rfl (by repeat (first | exact PutA.here (Nat.le_of_ble_eq_true rfl) | apply PutA.there)) ?_; intro w X2; (try simp only [upd] at X2); replace X := X2; clear X2) | (refine c_storeN rfl _ _ _ rfl rfl rfl X rfl rfl (by repeat (first | exact PutA.here (Nat.le_of_ble_eq_true rfl) | apply PutA.there)) ?_; intro w X2; (try simp only [upd] at X2); replace X := X2; clear X2))) | (refine m_alloc rfl _ rfl X ?_; intro g w X2; (replace X := X2; clear X2)) | (refine m_box rfl _ _ rfl (by first | exact EvR.const _ | exact EvR.tmp rfl rfl) rfl X ?_; intro g w X2; (replace X := X2; clear X2))); (simp only [Act.put, List.setIfInBounds_toArray, List.set_cons_succ, List.set_cons_zero, List.drop_succ_cons, List.drop_zero, List.take_succ_cons, List.take_zero, Nat.reduceAdd])) | (go_at_call 23; go_loud ((with_reducible refine (hMay.out _ X.below).mono ?_); rintro e w1 ⟨rfl, hb1⟩; replace X := X.call hb1; clear hb1)))
  exact m_ret2 rfl (.tmp rfl rfl) (.tmp rfl rfl) X (.head _) rfl rfl ⟨rfl, X.below⟩

theorem txn_Change_go (t : Txn) (h b : Int) (s : ByteArray) (vm vd vr : Value) (w : World) (ht : RTxn w (txnV t vm vd vr) t) (hz : mayE t h b = 0) :
    Calls Try.prog 7 #[txnV t vm vd vr, .int .i64 h, .int .i64 b, .string s] w fun e w' => ∃ vm' vd' vr', e = .returned (.tuple #[txnV (chgT t h b s) vm' vd' vr', .int .i64 (chgE t h b s)]) ∧ NewT w.heap.size w' vm vd vr vm' vd' vr' t (chgT t h b s) ∧ Below w.heap.size w w' := by
  have hMay := fun w' (hb : Below w.heap.size w w') => txn_may t h b _ w' (ht.below hb)
  rw [hz] at hMay
  obtain ⟨hgt, hh, ho, hb⟩ := may_zero hz
  have hg := goodT_of.1 hgt
  obtain ⟨vm', vd', vr', hvv, hm, hd, hr, n1, n2, n3⟩ := ht
  simp only [txnV, Value.agg.injEq, Array.mk.injEq, List.cons.injEq, and_true, true_and] at hvv
  obtain ⟨rfl, rfl, rfl⟩ := hvv
  obtain ⟨am, cm, rfl, _⟩ := hm.form
  obtain ⟨ad, cd, rfl, _⟩ := hd.form
  obtain ⟨ar, cr, rfl, _⟩ := hr.form
  obtain ⟨l1, l2, l3⟩ := lens hg
  have hHas := fun w' (hb : Below w.heap.size w w') => txn_has t.dt b _ w' (copies_rise hg.dt) (hd.below hb) (by omega)
  have hPay := fun w' g (hb : Below w.heap.size w w') k0 => txn_pay t am ad ar cm cd cr h b g w' k0 hg (hm.below hb) (hr.below hb) hh
  have hCl := fun w' (hb : Below w.heap.size w w') => slices_CloneI t.rev _ w' (hr.below hb) (by omega)
  have hDel := fun v w' gb base h1 h2 h3 h4 => slices_DeleteFuncI t.rev b v gb base w' h1 h2 h3 h4 (by omega)
  have hPut := fun w' (hb : Below w.heap.size w w') => txn_put t.mt b s _ w' (copies_rise hg.mt) (hm.below hb) (by omega)
  have hoff : t.rev.filter (fun x => !(x == b)) = offI t.rev b := by unfold offI; congr 1
  obtain ⟨D, hD⟩ : ∃ D, hasB t.dt b = D := ⟨_, rfl⟩
  obtain ⟨E, hE⟩ : ∃ E, payE t h b = E := ⟨_, rfl⟩
  rw [hD] at hHas
  rw [hE] at hPay
  simp only [txnL] at hPay
  simp only [hoff] at hDel
  obtain ⟨_, pm, pd, pr⟩ := payU_same t h b
  generalize hU : payU t h b = U at *
  replace hMay := hid hMay; replace hHas := hid hHas; replace hPay := hid hPay; replace hCl := hid hCl; replace hDel := hid hDel; replace hPut := hid hPut; replace hD := hid hD; replace hE := hid hE; replace hz := hid hz; replace hd := hid hd; replace hU := hid hU; replace pd := hid pd
  clear hm hr hgt ho hb hoff pm pr
  unfold txnV at hMay ⊢
  have X := St.start [] w
  go_enter Try.func7, Try.ntmps7
  go_wp2_with (first
    | (refine at_mem rfl ?_; (first | (refine at_load rfl ?_; (first | (refine c_load1 rfl _ _ rfl rfl X (by repeat (first | exact ReadA.here rfl | apply ReadA.there)) ?_) | (refine c_loadN rfl _ _ rfl rfl X (by repeat (first | exact ReadB.here (Nat.le_of_ble_eq_true rfl) | apply ReadB.there)) ?_))) | (refine at_store rfl ?_; (first | (refine c_store1 rfl _ _ _ rfl rfl (by first | exact EvR.const _ | exact EvR.tmp rfl rfl) X rfl rfl (by repeat (first | exact PutA.here (Nat.le_of_ble_eq_true rfl) | apply PutA.there)) ?_; intro w X2; (try simp only [upd] at X2); replace X := X2; clear X2) | (refine c_storeN rfl _ _ _ rfl rfl rfl X rfl rfl (by repeat (first | exact PutA.here (Nat.le_of_ble_eq_true rfl) | apply PutA.there)) ?_; intro w X2; (try simp only [upd] at X2); replace X := X2; clear X2))) | (refine m_alloc rfl _ rfl X ?_; intro g w X2; (replace X := X2; clear X2)) | (refine m_box rfl _ _ rfl (by first | exact EvR.const _ | exact EvR.tmp rfl rfl) rfl X ?_; intro g w X2; (replace X := X2; clear X2))); (simp only [Act.put, List.setIfInBounds_toArray, List.set_cons_succ, List.set_cons_zero, List.drop_succ_cons, List.drop_zero, List.take_succ_cons, List.take_zero, Nat.reduceAdd]))
    | (go_at_call 23; go_loud ((with_reducible refine (hMay.out _ X.below).mono ?_); rintro e w1 ⟨rfl, hb1⟩; replace X := X.call hb1; clear hb1))
    | (go_at_call 24; go_loud ((with_reducible refine (hHas.out _ X.below).mono ?_); rintro e w1 ⟨rfl, hb1⟩; replace X := X.call hb1; clear hb1))
    | (go_at_call 25; go_loud ((with_reducible refine (hPay.out _ _ X.below X.k0).mono ?_); rintro e w1 ⟨rfl, hk1, hm1⟩; have X2 := St.calledOn [] _ X hm1 hk1; clear hm1 hk1; replace X := X2; clear X2; simp only [List.nil_append] at X))
    | (go_at_call 27; go_loud ((with_reducible refine (hCl.out _ X.below).mono ?_); rintro e w1 ⟨v2, rfl, ho2, hb1⟩; obtain ⟨a2, c2, rfl⟩ := ho2.form; replace hDel := hid (hDel.out _ _ _ _ ho2 hb1.size X.k2.lt ((X.call hb1).k2.cell 0)); replace hb1 := hid hb1; clear ho2))
    | (go_at_call 26; go_loud ((with_reducible refine hDel.out.mono ?_); rintro e w2 ⟨v3, rfl, ho3, hb3⟩; obtain ⟨a3, c3, rfl⟩ := ho3.form; have f3 := hid (ho3.fresh X.mv.size); replace X := X.addOwn (hb1.out.trans hb3) ho3; clear hb1 hb3 ho3))
    | (go_at_call 29; go_loud ((with_reducible refine (hPut.out _ X.below).mono ?_); rintro e w1 ⟨v4, rfl, ho4, hb4⟩; obtain ⟨a4, c4, rfl⟩ := ho4.form; have f4 := hid (ho4.fresh X.mv.size); replace X := X.addOwn hb4 ho4; clear hb4 ho4)))
  · obtain ⟨e1, e2⟩ := chg_form (s := s) hz.out (ne32' (by assumption))
    rw [e1, e2]
    exact m_ret2 rfl (.tmp rfl rfl) (.tmp rfl rfl) X (.head _) rfl rfl ⟨_, _, _, rfl, .same _ _ _ _ _ _, X.below⟩
  all_goals have hs32 : s.size = 32 := ne32 (by assumption)
  · obtain ⟨e1, e2⟩ := chg_role hz.out hs32 (hD.out.trans ‹D = true›)
    rw [e1, e2]
    exact m_ret2 rfl (.tmp rfl rfl) (.tmp rfl rfl) X (.head _) rfl rfl ⟨_, _, _, rfl, .same _ _ _ _ _ _, X.below⟩
  · obtain ⟨e1, e2⟩ := chg_broke hz.out hs32 (hD.out.trans ‹D = false›) (by rw [hE.out]; simpa using ‹(E != 0) = true›)
    rw [e1, e2, hE.out]
    exact m_ret2 rfl (.tmp rfl rfl) (.tmp rfl rfl) X (.tail _ (.head _)) rfl rfl ⟨_, _, _, rfl, .same _ _ _ _ _ _, X.below⟩
  · have hE0 : E = 0 := by simpa using ‹(E != 0) = false›
    obtain ⟨e1, e2⟩ := chg_ok hz.out hs32 (hD.out.trans ‹D = false›) (hE.out.trans hE0)
    rw [e1, e2, hU.out]
    exact m_ret2 rfl (.tmp rfl rfl) (.tmp rfl rfl) X (.tail _ (.head _)) rfl rfl ⟨_, _, _, rfl, ⟨.inr ⟨X.r0, f4.out⟩, .inl ⟨rfl, pd.out⟩, .inr ⟨X.r1, f3.out⟩⟩, X.below⟩
theorem txn_Change (t : Txn) (h b : Int) (s : ByteArray) (vm vd vr : Value) (w : World) (ht : RTxn w (txnV t vm vd vr) t) :
    Calls Try.prog 7 #[txnV t vm vd vr, .int .i64 h, .int .i64 b, .string s] w fun e w' => ∃ vm' vd' vr', e = .returned (.tuple #[txnV (chgT t h b s) vm' vd' vr', .int .i64 (chgE t h b s)]) ∧ NewT w.heap.size w' vm vd vr vm' vd' vr' t (chgT t h b s) ∧ Below w.heap.size w w' := by
  by_cases hz : mayE t h b = 0
  · exact txn_Change_go t h b s vm vd vr w ht hz
  · obtain ⟨e1, e2⟩ := chg_may (s := s) hz
    refine (txn_Change_no t h b s _ w ht hz).mono ?_
    rintro e w' ⟨rfl, hb⟩
    rw [e1, e2]
    exact ⟨_, _, _, rfl, .same _ _ _ _ _ _, hb⟩
end Go.Proofs.Ytjhmfljlclajnac

namespace Go.Proofs.Ytjhmfljlclajnac
open Go.RowKit Wb
set_option linter.unusedVariables false
set_option linter.unusedSimpArgs false
set_option maxRecDepth 100000
set_option maxHeartbeats 8000000
theorem txn_Fill (t : Txn) (h b : Int) (s : ByteArray) (vm vd vr : Value) (w : World) (ht : RTxn w (txnV t vm vd vr) t) :
    Calls Try.prog 10 #[txnV t vm vd vr, .int .i64 h, .int .i64 b, .string s] w fun e w' => ∃ vm' vd' vr', e = .returned (.tuple #[txnV (filT t h b s) vm' vd' vr', .int .i64 (filE t h b s)]) ∧ NewT w.heap.size w' vm vd vr vm' vd' vr' t (filT t h b s) ∧ Below w.heap.size w w' := by
  have hMay := fun w' (hb : Below w.heap.size w w') => txn_may t h b _ w' (ht.below hb)
  obtain ⟨vm', vd', vr', hvv, hm, hd, hr, n1, n2, n3⟩ := ht
  simp only [txnV, Value.agg.injEq, Array.mk.injEq, List.cons.injEq, and_true, true_and] at hvv
  obtain ⟨rfl, rfl, rfl⟩ := hvv
  obtain ⟨am, cm, rfl, _⟩ := hm.form
  obtain ⟨ad, cd, rfl, _⟩ := hd.form
  obtain ⟨ar, cr, rfl, _⟩ := hr.form
  by_cases hz : mayE t h b = 0
  rotate_left
  · obtain ⟨e1, e2⟩ := fil_may (s := s) hz
    rw [e1, e2]
    clear e1 e2
    generalize mayE t h b = E at *
    replace hMay := hid hMay
    clear hm hd hr
    unfold txnV at hMay ⊢
    have X := St.start [] w
    go_enter Try.func10, Try.ntmps10
    go_wp2_with (first
      | (refine at_mem rfl ?_; (first | (refine at_load rfl ?_; (first | (refine c_load1 rfl _ _ rfl rfl X (by repeat (first | exact ReadA.here rfl | apply ReadA.there)) ?_) | (refine c_loadN rfl _ _ rfl rfl X (by repeat (first | exact ReadB.here (Nat.le_of_ble_eq_true rfl) | apply ReadB.there)) ?_))) | (refine at_store rfl ?_; (first | (refine c_store1 rfl _ _ _ rfl rfl (by first | exact EvR.const _ | exact EvR.tmp rfl rfl) X rfl rfl (by repeat (first | exact PutA.here (Nat.le_of_ble_eq_true rfl) | apply PutA.there)) ?_; intro w X2; (try simp only [upd] at X2); replace X := X2; clear X2) | (refine c_storeN rfl _ _ _ rfl rfl rfl X rfl rfl (by repeat (first | exact PutA.here (Nat.le_of_ble_eq_true rfl) | apply PutA.there)) ?_; intro w X2; (try simp only [upd] at X2); replace X := X2; clear X2))) | (refine m_alloc rfl _ rfl X ?_; intro g w X2; (replace X := X2; clear X2)) | (refine m_box rfl _ _ rfl (by first | exact EvR.const _ | exact EvR.tmp rfl rfl) rfl X ?_; intro g w X2; (replace X := X2; clear X2))); (simp only [Act.put, List.setIfInBounds_toArray, List.set_cons_succ, List.set_cons_zero, List.drop_succ_cons, List.drop_zero, List.take_succ_cons, List.take_zero, Nat.reduceAdd]))
      | (go_at_call 23; go_loud ((with_reducible refine (hMay.out _ X.below).mono ?_); rintro e w1 ⟨rfl, hb1⟩; replace X := X.call hb1; clear hb1)))
    exact m_ret2 rfl (.tmp rfl rfl) (.tmp rfl rfl) X (.head _) rfl rfl ⟨_, _, _, rfl, .same _ _ _ _ _ _, X.below⟩
  rw [hz] at hMay
  obtain ⟨hgt, hh, ho, hb⟩ := may_zero hz
  have hg := goodT_of.1 hgt
  obtain ⟨l1, l2, l3⟩ := lens hg
  have hHas := fun w' (hb : Below w.heap.size w w') => txn_has t.mt b _ w' (copies_rise hg.mt) (hm.below hb) (by omega)
  have hCon := fun w' (hb : Below w.heap.size w w') => slices_ContainsI t.rev b _ w' (hr.below hb) (by omega)
  have hPut := fun w' (hb : Below w.heap.size w w') => txn_put t.dt b s _ w' (copies_rise hg.dt) (hd.below hb) (by omega)
  obtain ⟨M, hM⟩ : ∃ M, hasB t.mt b = M := ⟨_, rfl⟩
  obtain ⟨V, hV⟩ : ∃ V, inI t.rev b = V := ⟨_, rfl⟩
  rw [hM] at hHas
  rw [hV] at hCon
  replace hMay := hid hMay; replace hHas := hid hHas; replace hCon := hid hCon; replace hPut := hid hPut; replace hM := hid hM; replace hV := hid hV; replace hz := hid hz
  clear hm hd hr hgt ho hb
  unfold txnV at hMay ⊢
  have X := St.start [] w
  cases M
  all_goals
    go_enter Try.func10, Try.ntmps10
    go_wp2_with (first
      | (refine at_mem rfl ?_; (first | (refine at_load rfl ?_; (first | (refine c_load1 rfl _ _ rfl rfl X (by repeat (first | exact ReadA.here rfl | apply ReadA.there)) ?_) | (refine c_loadN rfl _ _ rfl rfl X (by repeat (first | exact ReadB.here (Nat.le_of_ble_eq_true rfl) | apply ReadB.there)) ?_))) | (refine at_store rfl ?_; (first | (refine c_store1 rfl _ _ _ rfl rfl (by first | exact EvR.const _ | exact EvR.tmp rfl rfl) X rfl rfl (by repeat (first | exact PutA.here (Nat.le_of_ble_eq_true rfl) | apply PutA.there)) ?_; intro w X2; (try simp only [upd] at X2); replace X := X2; clear X2) | (refine c_storeN rfl _ _ _ rfl rfl rfl X rfl rfl (by repeat (first | exact PutA.here (Nat.le_of_ble_eq_true rfl) | apply PutA.there)) ?_; intro w X2; (try simp only [upd] at X2); replace X := X2; clear X2))) | (refine m_alloc rfl _ rfl X ?_; intro g w X2; (replace X := X2; clear X2)) | (refine m_box rfl _ _ rfl (by first | exact EvR.const _ | exact EvR.tmp rfl rfl) rfl X ?_; intro g w X2; (replace X := X2; clear X2))); (simp only [Act.put, List.setIfInBounds_toArray, List.set_cons_succ, List.set_cons_zero, List.drop_succ_cons, List.drop_zero, List.take_succ_cons, List.take_zero, Nat.reduceAdd]))
      | (go_at_call 23; go_loud ((with_reducible refine (hMay.out _ X.below).mono ?_); rintro e w1 ⟨rfl, hb1⟩; replace X := X.call hb1; clear hb1))
      | (go_at_call 24; go_loud ((with_reducible refine (hHas.out _ X.below).mono ?_); rintro e w1 ⟨rfl, hb1⟩; replace X := X.call hb1; clear hb1))
      | (go_at_call 37; go_loud ((with_reducible refine (hCon.out _ X.below).mono ?_); rintro e w1 ⟨rfl, rfl⟩))
      | (go_at_call 29; go_loud ((with_reducible refine (hPut.out _ X.below).mono ?_); rintro e w1 ⟨v4, rfl, ho4, hb4⟩; obtain ⟨a4, c4, rfl⟩ := ho4.form; have f4 := hid (ho4.fresh X.mv.size); replace X := X.addOwn hb4 ho4; clear hb4 ho4)))
  · obtain ⟨e1, e2⟩ := fil_form (s := s) hz.out (ne32' (by assumption))
    rw [e1, e2]
    exact m_ret2 rfl (.tmp rfl rfl) (.tmp rfl rfl) X (.head _) rfl rfl ⟨_, _, _, rfl, .same _ _ _ _ _ _, X.below⟩
  · obtain ⟨e1, e2⟩ := fil_role (s := s) hz.out (ne32 (by assumption)) (by rw [hM.out, hV.out, ‹V = true›]; rfl)
    rw [e1, e2]
    exact m_ret2 rfl (.tmp rfl rfl) (.tmp rfl rfl) X (.head _) rfl rfl ⟨_, _, _, rfl, .same _ _ _ _ _ _, X.below⟩
  · obtain ⟨e1, e2⟩ := fil_ok (s := s) hz.out (ne32 (by assumption)) (by rw [hM.out, hV.out, ‹V = false›]; rfl)
    rw [e1, e2]
    exact m_ret2 rfl (.tmp rfl rfl) (.tmp rfl rfl) X (.head _) rfl rfl ⟨_, _, _, rfl, ⟨.inl ⟨rfl, rfl⟩, .inr ⟨X.r0, f4.out⟩, .inl ⟨rfl, rfl⟩⟩, X.below⟩
  · obtain ⟨e1, e2⟩ := fil_form (s := s) hz.out (ne32' (by assumption))
    rw [e1, e2]
    exact m_ret2 rfl (.tmp rfl rfl) (.tmp rfl rfl) X (.head _) rfl rfl ⟨_, _, _, rfl, .same _ _ _ _ _ _, X.below⟩
  · obtain ⟨e1, e2⟩ := fil_role (s := s) hz.out (ne32 (by assumption)) (by rw [hM.out]; rfl)
    rw [e1, e2]
    exact m_ret2 rfl (.tmp rfl rfl) (.tmp rfl rfl) X (.head _) rfl rfl ⟨_, _, _, rfl, .same _ _ _ _ _ _, X.below⟩
end Go.Proofs.Ytjhmfljlclajnac

namespace Wb
open Go Go.RowKit
set_option linter.unusedSimpArgs false
theorem Own.pokeC {base : Nat} {e : TypeId} {w : World} {v : Value} {l : List Cpy} (h : Own cpyC base e 2 w v l) {k : Nat} (hk : k < l.length) (x : Cpy) :
    ∃ g cap, v = .slice (some ⟨g, 0, none⟩) l.length cap ∧ base ≤ g ∧ g < w.heap.size ∧ (w.frozen? ⟨g, k * 2, none⟩ = false ∧ w.cell? ⟨g, k * 2, none⟩ = some (.int .i64 l[k].block)) ∧ (w.frozen? ⟨g, k * 2 + 1, none⟩ = false ∧ w.cell? ⟨g, k * 2 + 1, none⟩ = some (.string l[k].text)) ∧
      Own cpyC base e 2 ((w.setCell ⟨g, k * 2, none⟩ (.int .i64 x.block)).setCell ⟨g, k * 2 + 1, none⟩ (.string x.text)) v (l.set k x) := by
  obtain ⟨g, cap, rfl, hb, hg, hq, hnew⟩ := Own.poke cpyC_flat h hk
  have h1 := hnew 0 ⟨x.block, l[k].text⟩ (.int .i64 x.block) (by decide) rfl
  rw [Nat.add_zero] at h1
  have hk2 : k < (l.set k ⟨x.block, l[k].text⟩).length := by simpa using hk
  obtain ⟨g2, cap2, hv, _, _, _, hnew2⟩ := Own.poke cpyC_flat h1 hk2
  simp only [Value.slice.injEq, Option.some.injEq, Addr.mk.injEq, and_true, true_and] at hv
  obtain ⟨rfl, -, rfl⟩ := hv
  have h2 := hnew2 1 x (.string x.text) (by decide) (by simp [cpyC])
  rw [List.set_set] at h2
  have q0 := hq 0 (by decide)
  have q1 := hq 1 (by decide)
  rw [Nat.add_zero] at q0
  exact ⟨g, cap, rfl, hb, hg, ⟨q0.1, q0.2⟩, ⟨q1.1, q1.2⟩, h2⟩
end Wb
namespace Go.Proofs.Ytjhmfljlclajnac
open Go.RowKit Wb
set_option linter.unusedVariables false
set_option linter.unusedSimpArgs false
set_option maxRecDepth 100000
set_option maxHeartbeats 8000000
theorem slices_DeleteFuncC (l : List Cpy) (b : Int) (v : Value) (gb base : Nat) (w : World) (h : Own cpyC base 68 2 w v l) (hbase : base ≤ w.heap.size) (hgb : gb < base) (hc : w.cell? ⟨gb, 0, none⟩ = some (.int .i64 b)) (hl : l.length ≤ 5864062014805) :
    Calls Try.prog 55 #[v, .func (.func 56) #[] #[.pointer (some ⟨gb, 0, none⟩)]] w fun e w' => ∃ v', e = .returned v' ∧ Own cpyC base 68 2 w' v' (l.filter (fun x => !(x.block == b))) ∧ Below base w w' := by
  have hIF := slices_IndexFuncC l b v gb w h.reads hc hl
  rcases idxK_spec (fun x => x.block) l b with ⟨e1, hno⟩ | ⟨k, e1, hk, hkb, hno⟩
  · rw [e1] at hIF
    have e2 : l.filter (fun x => !(x.block == b)) = l := filter_all (fun i hi => by simpa using hno i hi)
    rw [e2]
    obtain ⟨a, cap, rfl⟩ := h.form
    replace hIF := hid hIF; replace h := hid h
    clear e1 e2 hno
    go_enter Try.func55, Try.ntmps55
    go_wp2_with (go_at_call 74; go_loud ((with_reducible refine hIF.out.mono ?_); rintro e w1 ⟨rfl, hb1⟩))
    go_ret
    exact ⟨_, rfl, h.out.below hb1, hb1.mono hbase⟩
  · rw [e1] at hIF
    have hK0 : KeptI (fun x => !(x.block == b)) l (k + 1) k l := KeptI.start hk (fun i hi h2 => by simpa using hno i h2) (by simpa using hkb)
    obtain ⟨g, cap, cur, rfl, hbg, hkk, hcap, hmax, hsz, htk⟩ := h.row (by omega)
    have hC := hid (fun x w hc => txn_drop1 x b gb w hc)
    have hne1 : ((k : Int) == -1) = false := beq_eq_false_iff_ne.2 (by omega)
    have hKp : Hid (KeptI (fun x => !(x.block == b)) l (k + 1) k l) := hid hK0
    have hle := hKp.out.le
    replace hIF := hid hIF; replace h := hid h; replace hc := hid hc
    clear e1 hno hkb hK0 hkk hsz htk cur
    go_enter Try.func55, Try.ntmps55
    go_wp2_with (go_at_call 74; go_loud ((with_reducible refine hIF.out.mono ?_); rintro e w1 ⟨rfl, hb1⟩; have h1 := hid (h.out.below hb1); have hc1 := hid (cell_below hb1 hc.out); have nx := hb1.mono hbase; clear h hc hIF))
    go_loopg [5, 6, 7] l.length (fun gg s5 s6 _ wr => ∃ (i j : Nat) (lk : List Cpy), s5 = .int .i64 i ∧ s6 = .int .i64 j ∧ j ≤ l.length ∧ i < j ∧ l.length - j ≤ gg ∧ Below base w wr ∧ Hid (wr.cell? ⟨gb, 0, none⟩ = some (.int .i64 b)) ∧ Hid (Own cpyC base 68 2 wr (.slice (some ⟨g, 0, none⟩) l.length cap) lk) ∧ Hid (KeptI (fun x => !(x.block == b)) l j i lk))
    case atStart => exact ⟨k, k + 1, l, rfl, by go_num, by omega, by omega, by omega, nx, hc1, h1, hKp⟩
    case round =>
      clear nx hc1 h1 hKp hb1
      obtain ⟨i, j, lk, rfl, rfl, hjl, hij, hgg, nx, hcw, ho, hK⟩ := hrel
      by_cases hlt : j < l.length
      · obtain ⟨hjk, hje⟩ := hK.out.get hlt
        obtain ⟨b1, o1, hae, c0, c1⟩ := RL.at2 (fun x => .int .i64 x.block) (fun x => .string x.text) (fun _ => rfl) ho.out.reads hjk
        simp only [Option.some.injEq, Addr.mk.injEq, and_true] at hae
        obtain ⟨rfl, rfl⟩ := hae
        rw [hje] at c0 c1
        simp only [Nat.zero_add] at c0 c1
        have hCx := fun w' hc => hC.out l[j] w' hc
        by_cases hb : l[j].block = b
        · have hK2 := hid (hK.out.skip hlt (by simpa using hb))
          have e1 : (l[j].block == b) = true := beq_iff_eq.2 hb
          rw [e1] at hCx
          replace hCx := hid hCx
          clear hb e1 hK hje
          generalize l[j] = x at *
          go_wp2_with (go_at_call 56; go_loud ((with_reducible refine (hCx.out _ (cell_below (bal (b0 wr) (.cells #[.int .i64 x.block, .string x.text] 68)) hcw.out)).mono ?_); rintro e w1 ⟨rfl, hb1⟩; have hb2 := bgo (bal (b0 wr) (.cells #[.int .i64 x.block, .string x.text] 68)) hb1; have ho2 := hid (ho.out.below hb2); have hcw2 := hid (cell_below hb2 hcw.out); have nx2 := nx.trans (hb2.mono (Nat.le_trans hbase nx.size))))
          go_roundg (l.length - (j + 1))
          case measure => omega
          case rel => exact ⟨i, j + 1, lk, rfl, by go_num, by omega, by omega, Nat.le_refl _, nx2, hcw2, ho2, hK2⟩
        · have hK2 := hid (hK.out.keep hlt (by simpa using hb))
          have hil : i < lk.length := by omega
          have e1 : (l[j].block == b) = false := beq_eq_false_iff_ne.2 hb
          rw [e1] at hCx
          replace hCx := hid hCx
          clear hb e1 hK hje
          have hin : i < l.length := by omega
          generalize l[j] = x at *
          go_wp2_with (go_at_call 56; go_loud ((with_reducible refine (hCx.out _ (cell_below (bal (b0 wr) (.cells #[.int .i64 x.block, .string x.text] 68)) hcw.out)).mono ?_); rintro e w1 ⟨rfl, hb1⟩; have hb2 := bgo (bal (b0 wr) (.cells #[.int .i64 x.block, .string x.text] 68)) hb1; have kb := (Blk.new wr #[.int .i64 x.block, .string x.text] 68).step hb1; have p0 := kb.cell 0; have p1 := kb.cell 1; simp only [List.getElem?_toArray, List.getElem?_cons_zero, List.getElem?_cons_succ] at p0 p1; have ho2 := ho.out.below hb2; have hcw2 := hid (cell_below hb2 hcw.out); have nx2 := nx.trans (hb2.mono (Nat.le_trans hbase nx.size)); obtain ⟨g2, cap2, hv2, hbb2, hgg2, ⟨z0, y0⟩, ⟨z1, y1⟩, hnew⟩ := Own.pokeC ho2 hil x; simp only [Value.slice.injEq, Option.some.injEq, Addr.mk.injEq, and_true, true_and] at hv2; obtain ⟨rfl, -, rfl⟩ := hv2; replace hnew := hid hnew; clear kb ho2 ho))
          go_roundg (l.length - (j + 1))
          case measure => omega
          case rel => exact ⟨i + 1, j + 1, lk.set i x, by go_num, by go_num, by omega, by omega, Nat.le_refl _, (nx2.setCell hbg _).setCell hbg _, hid (by rw [World.cell?_setCell_other _ _ _ _ (fun hh => by simp only [Addr.mk.injEq] at hh; omega), World.cell?_setCell_other _ _ _ _ (fun hh => by simp only [Addr.mk.injEq] at hh; omega)]; exact hcw2.out), hid (hnew.out), hK2⟩
      · obtain rfl : j = l.length := by omega
        obtain ⟨hd1, hd2⟩ := hK.out.done (Nat.le_refl _)
        have hlk := hK.out.1
        have hcut := hid (fun zs hz => Own.cut (i := i) cpyC_flat (by rw [hlk]; exact ho.out) (by omega) zs hz)
        obtain ⟨g', cap', cur', hv', hbg', hkk, hcap', hmax', hsz, htk⟩ := ho.out.row (by omega)
        simp only [Value.slice.injEq, Option.some.injEq, Addr.mk.injEq, and_true, true_and] at hv'
        obtain ⟨rfl, -, rfl⟩ := hv'
        have hcl : ∀ ty, (Builtin.clear_ #[22] ty #[.slice (some ⟨g, i * 2, none⟩) (l.length - i) (cap - i)]).run Try.prog wr = .ok (.tuple #[]) (wr.setCells g (i * 2) (Builtin.zeroCells (.agg #[.int .i64 0, .string ⟨#[]⟩] : Value).cells (l.length - i)).toList) :=
          fun ty => run_clear_c wr _ _ ty (.agg #[.int .i64 0, .string ⟨#[]⟩]) elemCpy.under (fun _ => rfl) (by decide) (by decide) g _ _ _ (by omega)
            (fun t ht => by rw [hkk.cell, Array.getElem?_eq_getElem (by rw [hsz]; simp [Value.cells] at ht; omega)]; rfl) (fun t ht => hkk.free _)
        have hzl : i * 2 + (Builtin.zeroCells (.agg #[.int .i64 0, .string ⟨#[]⟩] : Value).cells (l.length - i)).toList.length ≤ l.length * 2 := by
          rw [Array.length_toList, size_zeroCells]
          have := mul_split (c := 2) (n := l.length) (i := i) (by omega)
          simp only [Value.cells] at this ⊢
          simp
          omega
        have hfin := hcut.out _ (by rw [hlk]; exact hzl)
        rw [hd1] at hfin
        have nz := Wb.Below.sets g hbg (Builtin.zeroCells (.agg #[.int .i64 0, .string ⟨#[]⟩] : Value).cells (l.length - i)).toList (i * 2) _ nx
        skip
        replace hfin := hid hfin; replace nz := hid nz
        clear hcut hkk hsz htk hzl hK ho hd1 hd2 hlk
        generalize (Builtin.zeroCells (.agg #[.int .i64 0, .string ⟨#[]⟩] : Value).cells (l.length - i)).toList = zs at *
        have hil : (i : Int) ≤ (l.length : Int) := by omega
        have hci : ¬ (cap = i) := by omega
        go_wp2
        go_ret
        exact ⟨_, rfl, hfin.out, nz.out⟩
end Go.Proofs.Ytjhmfljlclajnac
