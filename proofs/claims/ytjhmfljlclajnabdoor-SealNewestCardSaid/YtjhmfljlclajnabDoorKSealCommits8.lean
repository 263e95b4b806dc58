/- What a function makes of a transaction's lists: each as it was, or in a row of its own. No program in sight. -/
import Derived.Test.YtjhmfljlclajnabDoorKSealCommits2
import Derived.Test.YtjhmfljlclajnabDoorKSealCommits0
namespace Wb
open Go Go.RowKit
theorem Own.fresh {α : Type} {f : α → List Value} {base B : Nat} {e : TypeId} {c : Nat} {w : World} {v : Value} {l : List α} (h : Own f base e c w v l) (hB : B ≤ base) : ∀ b, vblk v = some b → B ≤ b := fun b hb => by
  obtain ⟨_, h2⟩ := h
  rcases h2 with ⟨rfl, _⟩ | ⟨g, cap, cur, rfl, hbg, _⟩
  · cases hb
  · cases hb; exact Nat.le_trans hB hbg
/-- The slice v, that read l, is still v and l, or a new one, of a block from B on. -/
def Slot {α : Type} (f : α → List Value) (B : Nat) (w' : World) (v v' : Value) (l l' : List α) : Prop := (v' = v ∧ l' = l) ∨ (RL f w' v' l' ∧ ∀ b, vblk v' = some b → B ≤ b)
theorem Slot.same {α : Type} (f : α → List Value) (B : Nat) (w' : World) (v : Value) (l : List α) : Slot f B w' v v l l := .inl ⟨rfl, rfl⟩
theorem Slot.read {α : Type} {f : α → List Value} {B : Nat} {w' : World} {v v' : Value} {l l' : List α} (h : Slot f B w' v v' l l') (hr : RL f w' v l) : RL f w' v' l' := by
  rcases h with ⟨rfl, rfl⟩ | ⟨h, _⟩
  · exact hr
  · exact h
structure NewT (B : Nat) (w' : World) (vm vd vr vm' vd' vr' : Value) (t t' : Txn) : Prop where
  m : Slot cpyC B w' vm vm' t.mt t'.mt
  d : Slot cpyC B w' vd vd' t.dt t'.dt
  r : Slot intC B w' vr vr' t.rev t'.rev
theorem NewT.same (B : Nat) (w' : World) (vm vd vr : Value) (t : Txn) : NewT B w' vm vd vr vm vd vr t t := ⟨.same _ _ _ _ _, .same _ _ _ _ _, .same _ _ _ _ _⟩
section
variable {S : List Nat} {w0 w w' : World} {L : List Ent} {R : List Rd}
theorem St.addSlot (X : St S w0 w L R) {α : Type} {f : α → List Value} {B : Nat} {v v' : Value} {l l' : List α} (hB : ∀ e ∈ L, e.g < B) (hs : Slot f B w v v' l l') (hv : Rd.of f v l ∈ R) : St S w0 w L (Rd.of f v' l' :: R) := by
  rcases hs with ⟨rfl, rfl⟩ | ⟨h1, h2⟩
  · exact X.addR (X.rd _ hv).1 (X.rd _ hv).2
  · exact X.addR h1 (.inr fun b hb e he heq => by
      have := h2 b hb
      have := hB e he
      omega)
theorem St.lts (X : St S w0 w L R) : ∀ e ∈ L, e.g < w.heap.size := fun e he => (X.blk e he).lt
/-- Behind a call that hands a transaction back. -/
theorem St.addT (X : St S w0 w L R) (hb : Below w.heap.size w w') {vm vd vr vm' vd' vr' : Value} {t t' : Txn} (hN : NewT w.heap.size w' vm vd vr vm' vd' vr' t t') (hm : Rd.of cpyC vm t.mt ∈ R) (hd : Rd.of cpyC vd t.dt ∈ R) (hr : Rd.of intC vr t.rev ∈ R) :
    St S w0 w' L (Rd.of cpyC vm' t'.mt :: Rd.of cpyC vd' t'.dt :: Rd.of intC vr' t'.rev :: R) := by
  have X1 := X.call hb
  have X2 := X1.addSlot X.lts hN.r hr
  have X3 := X2.addSlot X.lts hN.d (List.mem_cons_of_mem _ hd)
  exact X3.addSlot X.lts hN.m (List.mem_cons_of_mem _ (List.mem_cons_of_mem _ hm))
theorem St.rtxn (X : St S w0 w L R) {vm vd vr : Value} {t : Txn} (hm : Rd.of cpyC vm t.mt ∈ R) (hd : Rd.of cpyC vd t.dt ∈ R) (hr : Rd.of intC vr t.rev ∈ R) (h1 : t.mt.length ≤ 5864062014805) (h2 : t.dt.length ≤ 5864062014805) (h3 : t.rev.length ≤ 17592186044160) : RTxn w (txnV t vm vd vr) t :=
  ⟨vm, vd, vr, rfl, X.read hm, X.read hd, X.read hr, h1, h2, h3⟩
theorem St.rt0 {vm vd vr : Value} {t : Txn} (X : St S w0 w L (Rd.of cpyC vm t.mt :: Rd.of cpyC vd t.dt :: Rd.of intC vr t.rev :: R)) (h1 : t.mt.length ≤ 5864062014805) (h2 : t.dt.length ≤ 5864062014805) (h3 : t.rev.length ≤ 17592186044160) : RTxn w (txnV t vm vd vr) t :=
  X.rtxn (.head _) (.tail _ (.head _)) (.tail _ (.tail _ (.head _))) h1 h2 h3
theorem St.rt1 {r0 r1 r2 : Rd} {vm vd vr : Value} {t : Txn} (X : St S w0 w L (r0 :: r1 :: r2 :: Rd.of cpyC vm t.mt :: Rd.of cpyC vd t.dt :: Rd.of intC vr t.rev :: R)) (h1 : t.mt.length ≤ 5864062014805) (h2 : t.dt.length ≤ 5864062014805) (h3 : t.rev.length ≤ 17592186044160) : RTxn w (txnV t vm vd vr) t :=
  X.rtxn (.tail _ (.tail _ (.tail _ (.head _)))) (.tail _ (.tail _ (.tail _ (.tail _ (.head _))))) (.tail _ (.tail _ (.tail _ (.tail _ (.tail _ (.head _)))))) h1 h2 h3
/-- A transaction of the start. -/
theorem St.startT {vm vd vr : Value} {t : Txn} (ht : RTxn w0 (txnV t vm vd vr) t) : St [] w0 w0 [] [Rd.of cpyC vm t.mt, Rd.of cpyC vd t.dt, Rd.of intC vr t.rev] := by
  obtain ⟨vm', vd', vr', hv, h1, h2, h3, _⟩ := ht
  simp only [txnV, Value.agg.injEq, Array.mk.injEq, List.cons.injEq, and_true, true_and] at hv
  obtain ⟨rfl, rfl, rfl⟩ := hv
  exact (((St.start [] w0).addR0 h3).addR0 h2).addR0 h1
end
theorem NewT.rtxn {B : Nat} {w' : World} {vm vd vr vm' vd' vr' : Value} {t t' : Txn} (h : NewT B w' vm vd vr vm' vd' vr' t t') (ht : RTxn w' (txnV t vm vd vr) t) (h1 : t'.mt.length ≤ 5864062014805) (h2 : t'.dt.length ≤ 5864062014805) (h3 : t'.rev.length ≤ 17592186044160) : RTxn w' (txnV t' vm' vd' vr') t' := by
  obtain ⟨um, ud, ur, hv, r1, r2, r3, _⟩ := ht
  simp only [txnV, Value.agg.injEq, Array.mk.injEq, List.cons.injEq, and_true, true_and] at hv
  obtain ⟨rfl, rfl, rfl⟩ := hv
  exact ⟨_, _, _, rfl, h.m.read r1, h.d.read r2, h.r.read r3, h1, h2, h3⟩
end Wb
