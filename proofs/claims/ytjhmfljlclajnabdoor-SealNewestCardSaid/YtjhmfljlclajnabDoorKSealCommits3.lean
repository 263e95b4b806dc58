/- A region that draws its order, walked in one order: reads of known blocks may come at any time, what writes comes when all that it would turn has been read. No program in sight. A region that draws its order, where two effects may come in either order: walked as a tree. And stores past what is kept. No program in sight. The laws of memory, said shortly: which block is meant is found by a small search. No program in sight. A slice that is built out of parts, and append, in any region. No program in sight. -/
import Derived.Test.YtjhmfljlclajnabDoorKSealCommits2
import Derived.OrdersHeld
namespace Wb
open Go Go.RowKit
set_option linter.unusedVariables false
set_option linter.unusedSimpArgs false
section
variable {P : Program} {ops : Array Oper} {Q : Exit → Act → World → Prop} {md : Region.Mode} {S : World → Prop} {brk : List Nat}

/-- Does operation b wait for operation i by itself? -/
def waitB (md : Region.Mode) (ops : Array Oper) (b i : Nat) : Bool := ((ops[b]?).map fun o => o.after.any fun e => Region.binds md e && e.on == i).getD true
/-- Whatever order comes from here on; every operation but those of 'brk' leaves S as it is. -/
def AnyS (P : Program) (md : Region.Mode) (ops : Array Oper) (Q : Exit → Act → World → Prop) (S : World → Prop) (brk : List Nat) : Nat → Array Bool → Act → World → Prop
  | 0, x, a, w => Region.ready md ops x = [] ∧ Q .normal a w
  | n + 1, x, a, w => (Region.ready md ops x = [] → Q .normal a w) ∧
      ∀ i ∈ Region.ready md ops x, wpOp P ops Q i (fun b v => (brk.contains i = false → S w → S v) ∧ AnyS P md ops Q S brk n (x.setIfInBounds i true) b v) a w
theorem AnyS.any : ∀ (n : Nat) (x : Array Bool) (a : Act) (w : World), AnyS P md ops Q S brk n x a w → wpAny P md ops Q n x a w
  | 0, _, _, _, h => h
  | n + 1, x, a, w, h => ⟨h.1, fun i hi => wpOp_mono (fun b v hh => AnyS.any n _ b v hh.2) (h.2 i hi)⟩
theorem waitB_spec {b i : Nat} {o : Oper} (ho : ops[b]? = some o) (h : waitB md ops b i = true) : ∃ e ∈ o.after, Region.binds md e = true ∧ e.on = i := by
  unfold waitB at h
  rw [ho] at h
  obtain ⟨e, he, hb⟩ := Array.any_eq_true'.1 h
  rw [Bool.and_eq_true, beq_iff_eq] at hb
  exact ⟨e, he, hb.1, hb.2⟩
/-- What is told of an operation that reads: all that it shares with those that may still come. -/
def Loose (md : Region.Mode) (ops : Array Oper) (x : Array Bool) (i : Nat) (o : Oper) : Prop :=
  ∀ j oj, ops[j]? = some oj → j ≠ i → x.getD j true = false → (∀ e ∈ oj.after, Region.binds md e = true → e.on ≠ i) → o.apart ops oj = true
theorem Loose.set {x : Array Bool} {i j : Nat} {o : Oper} (h : Loose md ops x i o) (hj : x.getD j true = false) : Loose md ops (x.setIfInBounds j true) i o := fun k ok hk hne hun hno => by
  by_cases e : j = k
  · subst e; exact h _ ok hk hne hj hno
  · exact h k ok hk hne (by rw [getD_set_ne true e] at hun; exact hun) hno
/-- An operation that reads may be taken first: where S holds, if all that may end S waits for it; or anywhere. -/
theorem AnyS.take {T : World → Prop} {i : Nat} {o : Oper} {v : Value} (hi : ops[i]? = some o) (hsel : ∀ (j : Nat) (o : Oper) cs b, ops[j]? = some o → o.op ≠ .select cs b)
    (hQ : ∀ c a w, Q (.panic c) (a.put o.dst v) w → Q (.panic c) a w) (hT : (T = S ∧ brk.all (fun b => waitB md ops b i) = true) ∨ ∀ w, T w) :
    ∀ (n : Nat) (x : Array Bool) (a : Act) (w : World), Loose md ops x i o → i ∈ Region.ready md ops x → YieldsIf P ops T o v a → T w →
      AnyS P md ops Q S brk n (x.setIfInBounds i true) (a.put o.dst v) w → AnyS P md ops Q S brk (n + 1) x a w
  | n, x, a, w, hl, hr, hy, hS, H => by
    have hne : Region.ready md ops x ≠ [] := fun e => by rw [e] at hr; cases hr
    refine ⟨fun e => absurd e hne, fun j hj => ?_⟩
    by_cases e : j = i
    · subst e
      exact hy.wpOp hi hS ⟨fun _ h => h, H⟩
    · have hj2 := ready_mono hj e
      obtain ⟨hju, oj, hoj, hall⟩ := mem_ready.1 hj
      have hiu := (mem_ready.1 hr).1
      have hnot : ∀ d ∈ oj.after, Region.binds md d = true → d.on ≠ i := fun d hd hb he => by
        have h1 := hall d hd hb
        rw [he] at h1
        rcases Nat.lt_or_ge i x.size with h3 | h3
        · simp [h3] at hiu h1; rw [hiu] at h1; cases h1
        · simp [Array.getElem?_eq_none h3] at h1
      have next : ∀ u, (brk.contains j = false → S w → S u) → T u := fun u hu => by
        rcases hT with ⟨rfl, hbrk⟩ | hT
        · refine hu ?_ hS
          cases hb : brk.contains j with
          | false => rfl
          | true =>
            have h1 := List.all_eq_true.1 hbrk j (by simpa using hb)
            obtain ⟨d, hd, hb1, hb2⟩ := waitB_spec hoj h1
            exact absurd hb2 (hnot d hd hb1)
        · exact hT u
      cases n with
      | zero => rw [H.1] at hj2; cases hj2
      | succ n =>
        have h1 := H.2 j hj2
        have h2 := wpOp_putIf hoj (hl j oj hoj e hju hnot) (fun cs b => hsel i o cs b hi) (fun cs b => hsel j oj cs b hoj) hQ hy h1
        refine wpOp_mono (fun b u hh => ?_) h2
        obtain ⟨hy2, hS2, H2⟩ := hh
        refine ⟨hS2, AnyS.take hi hsel hQ hT n _ b u (hl.set hju) (ready_mono hr (Ne.symm e)) hy2 (next u hS2) ?_⟩
        rw [Array.setIfInBounds_comm _ _ e]
        exact H2

/-! ### One order -/
/-- The operations, in one order: those of 'eff' do something, those of 'lds' read what S tells, the others yield in whatever world. -/
def Seq (P : Program) (ops : Array Oper) (Q : Exit → Act → World → Prop) (S : World → Prop) (brk eff lds : List Nat) : List Nat → Act → World → Prop
  | [], a, w => Q .normal a w
  | i :: r, a, w => if eff.contains i = true then wpOp P ops Q i (fun b v => (brk.contains i = false → S w → S v) ∧ Seq P ops Q S brk eff lds r b v) a w
      else if lds.contains i = true then ∃ o v, ops[i]? = some o ∧ YieldsIf P ops S o v a ∧ S w ∧ (∀ c a w, Q (.panic c) (a.put o.dst v) w → Q (.panic c) a w) ∧ Seq P ops Q S brk eff lds r (a.put o.dst v) w
      else ∃ o v, ops[i]? = some o ∧ YieldsIf P ops (fun _ => True) o v a ∧ (∀ c a w, Q (.panic c) (a.put o.dst v) w → Q (.panic c) a w) ∧ Seq P ops Q S brk eff lds r (a.put o.dst v) w
/-- Is it an order that stands for all? -/
def ordOk (md : Region.Mode) (ops : Array Oper) (brk eff lds : List Nat) : Array Bool → List Nat → Bool
  | x, [] => (Region.ready md ops x).isEmpty
  | x, i :: r => (if eff.contains i = true then Region.ready md ops x == [i] else (Region.ready md ops x).contains i && Region.free md ops x i && (!lds.contains i || brk.all (fun b => waitB md ops b i))) && ordOk md ops brk eff lds (x.setIfInBounds i true) r
theorem Seq.anyS {eff lds : List Nat} (hs : Region.noSelect ops = true) : ∀ (r : List Nat) (x : Array Bool) (a : Act) (w : World), ordOk md ops brk eff lds x r = true → Seq P ops Q S brk eff lds r a w → AnyS P md ops Q S brk r.length x a w
  | [], x, a, w, hk, h => ⟨List.isEmpty_iff.1 hk, h⟩
  | i :: r, x, a, w, hk, h => by
    unfold ordOk at hk
    rw [Bool.and_eq_true] at hk
    obtain ⟨h1, h2⟩ := hk
    unfold Seq at h
    split at h
    · rename_i he
      rw [if_pos he] at h1
      have hr : Region.ready md ops x = [i] := by simpa using h1
      refine ⟨fun e => (by rw [hr] at e; cases e), fun j hj => ?_⟩
      rw [hr] at hj
      obtain rfl : j = i := by simpa using hj
      exact wpOp_mono (fun b v hh => ⟨hh.1, Seq.anyS hs r _ b v h2 hh.2⟩) h
    · rename_i he
      rw [if_neg he, Bool.and_eq_true, Bool.and_eq_true] at h1
      obtain ⟨⟨h3, h4⟩, h5⟩ := h1
      split at h
      · rename_i hl
        rw [hl, Bool.not_true, Bool.false_or] at h5
        obtain ⟨o, v, hi, hy, hS, hQ, hn⟩ := h
        exact AnyS.take hi (Region.noSelect_spec hs) hQ (.inl ⟨rfl, h5⟩) r.length x a w (fun j oj hj hne hun hno => Region.free_spec hi h4 j oj hj hne hun hno) (by simpa using h3) hy hS (Seq.anyS hs r _ _ _ h2 hn)
      · obtain ⟨o, v, hi, hy, hQ, hn⟩ := h
        exact AnyS.take hi (Region.noSelect_spec hs) hQ (.inr fun _ => trivial) r.length x a w (fun j oj hj hne hun hno => Region.free_spec hi h4 j oj hj hne hun hno) (by simpa using h3) hy trivial (Seq.anyS hs r _ _ _ h2 hn)
/-- Blocks that are known, and what is read. -/
structure Kept (L0 : List Ent) (R0 : List Rd) (w : World) : Prop where
  l : ∀ e ∈ L0, Blk w e.g e.cs.toArray e.t
  r : ∀ x ∈ R0, Sl w x.v x.n x.cs
/-- THE BEGINNING. -/
theorem wp_seq {id : Nat} {a : Act} {w : World} (L : List Ent) (R : List Rd) (brk eff lds perm : List Nat) (hm : P.follows .mixedOrders = true) (hs : (Region.noSelect ops && (perm.length == ops.size && ordOk .any ops brk eff lds (Array.replicate ops.size false) perm)) = true)
    (h : Seq P ops Q (Kept L R) brk eff lds perm a w.drew) : (Code.region id ops true).wp P Q a w := by
  rw [Bool.and_eq_true, Bool.and_eq_true] at hs
  obtain ⟨h1, h2, h3⟩ := hs
  have := Seq.anyS h1 perm _ a _ h3 h
  rw [show perm.length = ops.size by simpa using h2] at this
  exact wp_region_any hm (AnyS.any _ _ _ _ this)
end

/-! ### The steps -/
def nthO : List Oper → Nat → Option Oper
  | [], _ => none
  | o :: _, 0 => some o
  | _ :: r, n + 1 => nthO r n
theorem nthO_get : ∀ (l : List Oper) (i : Nat), nthO l i = l[i]?
  | [], i => by simp [nthO]
  | v :: r, 0 => rfl
  | v :: r, i + 1 => by rw [List.getElem?_cons_succ]; exact nthO_get r i
def oAt (ops : Array Oper) (i : Nat) : Option Oper := nthO ops.toList i
theorem oAt_get {ops : Array Oper} {i : Nat} {o : Oper} (h : oAt ops i = some o) : ops[i]? = some o := by
  unfold oAt at h
  rw [nthO_get] at h
  simpa using h
section
variable {P : Program} {ops : Array Oper} {Q : Exit → Act → World → Prop} {L0 : List Ent} {brk eff lds : List Nat} {i : Nat} {r : List Nat} {o : Oper} {a : Act} {S : List Nat} {w0 w : World} {L : List Ent} {R : List Rd}
/-- What is kept is among what is known now. -/
structure Under (L0 : List Ent) (R0 : List Rd) (L : List Ent) (R : List Rd) : Prop where
  l : L0.Sublist L
  r : ∀ x ∈ R0, x ∈ R
theorem Under.up {R0 : List Rd} {x : Rd} (h : Under L0 R0 L R) : Under L0 R0 L (x :: R) := ⟨h.l, fun y hy => List.mem_cons_of_mem _ (h.r y hy)⟩
theorem Under.up3 {R0 : List Rd} {x y z : Rd} (h : Under L0 R0 L R) : Under L0 R0 L (x :: y :: z :: R) := h.up.up.up
abbrev SQ (P : Program) (ops : Array Oper) (Q : Exit → Act → World → Prop) (L0 : List Ent) (R0 : List Rd) (brk eff lds : List Nat) : List Nat → Act → World → Prop := Seq P ops Q (Kept L0 R0) brk eff lds
def NoLook (Q : Exit → Act → World → Prop) : Prop := ∀ c a (k : Tmp) v w, Q (.panic c) (a.put (some k) v) w → Q (.panic c) a w
theorem NoLook.all (h : NoLook Q) : ∀ c a d v w, Q (.panic c) (a.put d v) w → Q (.panic c) a w := fun c a d v w hh => by
  cases d with
  | none => exact hh
  | some k => exact h c a k v w hh
theorem q_start {id : Nat} (k : Nat) (brk eff lds perm : List Nat) (X : St S w0 w L R) (hm : P.follows .mixedOrders = true) (hs : (Region.noSelect ops && (perm.length == ops.size && ordOk .any ops brk eff lds (Array.replicate ops.size false) perm)) = true) (hQ : NoLook Q)
    (h : NoLook Q → St S w0 w.drew L R → Under (L.take k) R L R → SQ P ops Q (L.take k) R brk eff lds perm a w.drew) : (Code.region id ops true).wp P Q a w := wp_seq (L.take k) R brk eff lds perm hm hs (h hQ X.drew ⟨List.take_sublist _ _, fun _ h => h⟩)
theorem q_nil {R0 : List Rd} (h : Q .normal a w) : SQ P ops Q L0 R0 brk eff lds [] a w := h
theorem St.keeps {R0 : List Rd} (X : St S w0 w L R) (hL : Under L0 R0 L R) : Kept L0 R0 w := ⟨fun e he => X.blk e (hL.l.subset he), fun r hr => (X.rd r (hL.r r hr)).1⟩
theorem St.und {R0 : List Rd} (X : St S w0 w L R) (hL : Under L0 R0 L R) : Under L0 R0 L R := hL
variable {R0 : List Rd}
/-- An operation that does something. -/
theorem q_eff (hi : oAt ops i = some o) (he : eff.contains i = true) (hw : Region.wanted o (yielded ops a.tmps) = true)
    (h : ∀ K : Act → World → Prop, (∀ b v, (brk.contains i = false → Kept L0 R0 w → Kept L0 R0 v) → SQ P ops Q L0 R0 brk eff lds r b v → K b v) → o.wp P a w K Q) : SQ P ops Q L0 R0 brk eff lds (i :: r) a w := by
  unfold SQ Seq
  rw [if_pos he]
  unfold wpOp
  rw [oAt_get hi]
  simp only [hw, if_true]
  exact .inl (h _ fun b v h1 h2 => ⟨h1, h2⟩)
/-- One that reads what is known. -/
theorem q_read {v : Value} (hi : oAt ops i = some o) (he : (!eff.contains i && lds.contains i) = true) (hw : Region.wanted o (yielded ops a.tmps) = true) (X : St S w0 w L R) (hL : Under L0 R0 L R) (hQ : NoLook Q)
    (hv : ∀ w', Kept L0 R0 w' → (execOp a.eval o).run P w' = .ok (.value v) w') (h : SQ P ops Q L0 R0 brk eff lds r (a.put o.dst v) w) : SQ P ops Q L0 R0 brk eff lds (i :: r) a w := by
  rw [Bool.and_eq_true, Bool.not_eq_true'] at he
  unfold SQ Seq
  rw [if_neg (by rw [he.1]; decide), if_pos he.2]
  exact ⟨o, v, oAt_get hi, .inl ⟨hw, hv⟩, X.keeps hL, fun c a w hh => hQ.all c a o.dst v w hh, h⟩
/-- One whose guard says no. -/
theorem q_skip (hi : oAt ops i = some o) (he : (!eff.contains i && !lds.contains i) = true) (hw : Region.wanted o (yielded ops a.tmps) = false) (hQ : NoLook Q)
    (h : SQ P ops Q L0 R0 brk eff lds r (a.put o.dst undef) w) : SQ P ops Q L0 R0 brk eff lds (i :: r) a w := by
  rw [Bool.and_eq_true, Bool.not_eq_true', Bool.not_eq_true'] at he
  unfold SQ Seq
  rw [if_neg (by rw [he.1]; decide), if_neg (by rw [he.2]; decide)]
  exact ⟨o, undef, oAt_get hi, .inr ⟨hw, rfl⟩, fun c a w hh => hQ.all c a o.dst undef w hh, h⟩
/-- One that yields in whatever world. -/
theorem q_pure {v : Value} (hi : oAt ops i = some o) (he : (!eff.contains i && !lds.contains i) = true) (hw : Region.wanted o (yielded ops a.tmps) = true) (hQ : NoLook Q)
    (hv : ∀ w', (execOp a.eval o).run P w' = .ok (.value v) w') (h : SQ P ops Q L0 R0 brk eff lds r (a.put o.dst v) w) : SQ P ops Q L0 R0 brk eff lds (i :: r) a w := by
  rw [Bool.and_eq_true, Bool.not_eq_true', Bool.not_eq_true'] at he
  unfold SQ Seq
  rw [if_neg (by rw [he.1]; decide), if_neg (by rw [he.2]; decide)]
  exact ⟨o, v, oAt_get hi, .inl ⟨hw, fun w' _ => hv w'⟩, fun c a w hh => hQ.all c a o.dst v w hh, h⟩
theorem q_move {x : Operand} {v : Value} (hi : oAt ops i = some o) (ho : o.op = .move x) (hx : EvR a x v) (he : (!eff.contains i && !lds.contains i) = true) (hw : Region.wanted o (yielded ops a.tmps) = true) (hQ : NoLook Q)
    (h : SQ P ops Q L0 R0 brk eff lds r (a.put o.dst v) w) : SQ P ops Q L0 R0 brk eff lds (i :: r) a w :=
  q_pure hi he hw hQ (fun w' => by unfold execOp; simp only [ho, hx.eval]; rfl) h
theorem q_assign {x : Operand} {v : Value} (hi : oAt ops i = some o) (ho : o.op = .assign x) (hx : EvR a x v) (he : (!eff.contains i && !lds.contains i) = true) (hw : Region.wanted o (yielded ops a.tmps) = true) (hQ : NoLook Q)
    (h : SQ P ops Q L0 R0 brk eff lds r (a.put o.dst v) w) : SQ P ops Q L0 R0 brk eff lds (i :: r) a w :=
  q_pure hi he hw hQ (fun w' => by unfold execOp; simp only [ho, hx.eval]; rfl) h
theorem q_nilCheck {x : Operand} {p : Addr} (hi : oAt ops i = some o) (ho : o.op = .nilCheck x) (hx : EvR a x (.pointer (some p))) (he : (!eff.contains i && !lds.contains i) = true) (hw : Region.wanted o (yielded ops a.tmps) = true) (hQ : NoLook Q)
    (h : SQ P ops Q L0 R0 brk eff lds r (a.put o.dst (.pointer (some p))) w) : SQ P ops Q L0 R0 brk eff lds (i :: r) a w :=
  q_pure hi he hw hQ (fun w' => by unfold execOp; simp only [ho, hx.eval]; rfl) h
theorem q_extract {x : Operand} {k : Nat} {vs : List Value} {v : Value} (hi : oAt ops i = some o) (ho : o.op = .extract x k) (hx : EvR a x (.tuple vs.toArray)) (hv : nth vs k = some v) (he : (!eff.contains i && !lds.contains i) = true) (hw : Region.wanted o (yielded ops a.tmps) = true) (hQ : NoLook Q)
    (h : SQ P ops Q L0 R0 brk eff lds r (a.put o.dst v) w) : SQ P ops Q L0 R0 brk eff lds (i :: r) a w :=
  q_pure hi he hw hQ (fun w' => by
    rw [nth_get] at hv
    unfold execOp; simp only [ho, hx.eval, Instr.extract]; simp [hv]) h
/-- Where a field lies. -/
class FieldT (P : Program) (T : TypeId) (k : Nat) (d : outParam Nat) : Prop where
  at_ : ∀ (g i : Nat) (w : World), (Instr.fieldAt T (.pointer (some ⟨g, i, none⟩)) k).run P w = .ok (.pointer (some ⟨g, i + d, none⟩)) w
theorem q_field {x : Operand} {T : TypeId} {k d g n : Nat} (hi : oAt ops i = some o) (ho : o.op = .fieldAddr T x k) (hx : EvR a x (.pointer (some ⟨g, n, none⟩))) [hF : FieldT P T k d] (he : (!eff.contains i && !lds.contains i) = true) (hw : Region.wanted o (yielded ops a.tmps) = true) (hQ : NoLook Q)
    (h : SQ P ops Q L0 R0 brk eff lds r (a.put o.dst (.pointer (some ⟨g, n + d, none⟩))) w) : SQ P ops Q L0 R0 brk eff lds (i :: r) a w :=
  q_pure hi he hw hQ (fun w' => by unfold execOp; simp only [ho, hx.eval, Sem.run_bind, hF.at_, Result.andThen_ok, Sem.run_pure]) h
theorem q_load1 {x : Operand} {T : TypeId} {g n : Nat} (hi : oAt ops i = some o) (ho : o.op = .load T x) (hx : EvR a x (.pointer (some ⟨g, n, none⟩))) [OneT P T] {cs : List Value} {t : TypeId} (hm : ⟨g, cs, t⟩ ∈ L0) {v : Value} (hv : nth cs n = some v)
    (he : (!eff.contains i && lds.contains i) = true) (hw : Region.wanted o (yielded ops a.tmps) = true) (X : St S w0 w L R) (hL : Under L0 R0 L R) (hQ : NoLook Q)
    (h : SQ P ops Q L0 R0 brk eff lds r (a.put o.dst v) w) : SQ P ops Q L0 R0 brk eff lds (i :: r) a w :=
  q_read hi he hw X hL hQ (fun w' hw' => by
    have hc : w'.cell? ⟨g, n, none⟩ = some v := by rw [(hw'.l _ hm).cell n, ← hv, nth_get]; simp
    unfold execOp
    simp only [ho, hx.eval, Instr.loadAt, Instr.sureAddr, Sem.run_bind, Sem.run_pure, Result.andThen_ok, run_loadOne (T := T) hc]) h
theorem q_loadN {x : Operand} {T : TypeId} {g n m : Nat} (hi : oAt ops i = some o) (ho : o.op = .load T x) (hx : EvR a x (.pointer (some ⟨g, n, none⟩))) [hT : AggT P T m] {cs : List Value} {t : TypeId} (hm : ⟨g, cs, t⟩ ∈ L0) (hn : n + m ≤ cs.length)
    (he : (!eff.contains i && lds.contains i) = true) (hw : Region.wanted o (yielded ops a.tmps) = true) (X : St S w0 w L R) (hL : Under L0 R0 L R) (hQ : NoLook Q)
    (h : SQ P ops Q L0 R0 brk eff lds r (a.put o.dst (.agg ((cs.drop n).take m).toArray)) w) : SQ P ops Q L0 R0 brk eff lds (i :: r) a w :=
  q_read hi he hw X hL hQ (fun w' hw' => by
    obtain ⟨⟨d, hu, hd⟩, hs⟩ := hT
    have hr : (loadVar T ⟨g, n, none⟩).run P w' = .ok (.agg ((cs.drop n).take m).toArray) w' := run_loadVar_mid w' g n T ((cs.drop n).take m) d (fun j v hj => by
      rw [(hw'.l _ hm).cell]
      rw [List.getElem?_take] at hj
      split at hj
      · rw [List.getElem?_drop] at hj; simpa using hj
      · cases hj) hu hd (by rw [hs, List.length_take, List.length_drop]; congr 1; omega)
    unfold execOp
    simp only [ho, hx.eval, Instr.loadAt, Instr.sureAddr, Sem.run_bind, Sem.run_pure, Result.andThen_ok, hr]) h
theorem flat_nth {α : Type} {f : α → List Value} {c : Nat} (hF : ∀ x, (f x).length = c) : ∀ {l : List α} {k d : Nat} (hk : k < l.length), d < c → (l.flatMap f)[k * c + d]? = (f l[k])[d]?
  | x :: l, 0, d, hk, hd => by
    rw [List.flatMap_cons, Nat.zero_mul, Nat.zero_add, List.getElem?_append_left (by rw [hF]; exact hd)]; rfl
  | x :: l, k + 1, d, hk, hd => by
    rw [List.flatMap_cons, List.getElem?_append_right (by rw [hF, Nat.add_mul]; omega), hF, show (k + 1) * c + d - c = k * c + d by rw [Nat.add_mul]; omega]
    exact flat_nth hF (l := l) (Nat.lt_of_succ_lt_succ hk) hd
theorem Sl.elem {α : Type} {f : α → List Value} {c : Nat} (hF : ∀ x, (f x).length = c) {w : World} {b off cap n k d : Nat} {l : List α} (h : Sl w (.slice (some ⟨b, off, none⟩) n cap) l.length (l.flatMap f)) (hk : k < l.length) (hd : d < c) : w.cell? ⟨b, off + k * c + d, none⟩ = (f l[k])[d]? := by
  have hfn := flat_nth hF (d := d) hk hd
  have hlt : d < (f l[k]).length := by rw [hF]; exact hd
  rw [List.getElem?_eq_getElem hlt] at hfn ⊢
  obtain ⟨a, cap', hv, h1, h2, h3⟩ := h
  rcases h3 with h3 | ⟨b', off', ha, hc⟩
  · rw [h3] at hfn; cases hfn
  · cases hv
    cases ha
    rw [Nat.add_assoc]
    exact hc _ _ hfn
/-- A cell of an element of a list that is read. -/
theorem q_elem1 {α : Type} {f : α → List Value} {c : Nat} (hF : ∀ x, (f x).length = c) {l : List α} {k : Nat} (hk : k < l.length) (d : Nat) {x : Operand} {T : TypeId} {b off cap n : Nat} (hi : oAt ops i = some o) (ho : o.op = .load T x) (hm : Rd.of f (.slice (some ⟨b, off, none⟩) n cap) l ∈ R0) (hx : EvR a x (.pointer (some ⟨b, off + k * c + d, none⟩))) [OneT P T] (hd : d < c) {v : Value} (hv : nth (f l[k]) d = some v)
    (he : (!eff.contains i && lds.contains i) = true) (hw : Region.wanted o (yielded ops a.tmps) = true) (X : St S w0 w L R) (hL : Under L0 R0 L R) (hQ : NoLook Q)
    (h : SQ P ops Q L0 R0 brk eff lds r (a.put o.dst v) w) : SQ P ops Q L0 R0 brk eff lds (i :: r) a w :=
  q_read hi he hw X hL hQ (fun w' hw' => by
    have hc : w'.cell? ⟨b, off + k * c + d, none⟩ = some v := by
      rw [Sl.elem hF (hw'.r _ hm) hk hd, ← hv, nth_get]
    unfold execOp
    simp only [ho, hx.eval, Instr.loadAt, Instr.sureAddr, Sem.run_bind, Sem.run_pure, Result.andThen_ok, run_loadOne (T := T) hc]) h
/-- An element of a list that is read, whole. -/
theorem q_elemN {α : Type} {f : α → List Value} {c : Nat} (hF : ∀ x, (f x).length = c) {l : List α} {k : Nat} (hk : k < l.length) {x : Operand} {T : TypeId} {b off cap n : Nat} (hi : oAt ops i = some o) (ho : o.op = .load T x) (hm : Rd.of f (.slice (some ⟨b, off, none⟩) n cap) l ∈ R0) (hx : EvR a x (.pointer (some ⟨b, off + k * c, none⟩))) [hT : AggT P T c]
    (he : (!eff.contains i && lds.contains i) = true) (hw : Region.wanted o (yielded ops a.tmps) = true) (X : St S w0 w L R) (hL : Under L0 R0 L R) (hQ : NoLook Q)
    (h : SQ P ops Q L0 R0 brk eff lds r (a.put o.dst (.agg (f l[k]).toArray)) w) : SQ P ops Q L0 R0 brk eff lds (i :: r) a w :=
  q_read hi he hw X hL hQ (fun w' hw' => by
    obtain ⟨⟨d, hu, hd⟩, hs⟩ := hT
    have hr : (loadVar T ⟨b, off + k * c, none⟩).run P w' = .ok (.agg (f l[k]).toArray) w' := run_loadVar_mid w' b (off + k * c) T (f l[k]) d (fun j v hj => by
      have hlt : j < c := by rw [← hF l[k]]; exact (List.getElem?_eq_some_iff.1 hj).1
      rw [Sl.elem hF (hw'.r _ hm) hk hlt]; exact hj) hu hd (by rw [hs, hF])
    unfold execOp
    simp only [ho, hx.eval, Instr.loadAt, Instr.sureAddr, Sem.run_bind, Sem.run_pure, Result.andThen_ok, hr]) h
/-- A call of a Go function. -/
theorem q_call (f : FuncId) (xs : List Operand) (ts : Array TypeId) (hi : oAt ops i = some o) (ho : o.op = .call { callee := .value (.func f), args := xs.toArray, argTypes := ts }) (args : Array Value) (ha : (xs.map a.eval).toArray = args)
    (hb : ∃ fn c, P.funcs[f]? = some fn ∧ (fn.name == "runtime.NumGoroutine") = false ∧ fn.body = some c) (he : eff.contains i = true) (hw : Region.wanted o (yielded ops a.tmps) = true) {F : Ending → World → Prop}
    (h : Calls P f args w F) (hK : ∀ e w', F e w' → ∃ v, e = .returned v ∧ (brk.contains i = false → Kept L0 R0 w → Kept L0 R0 w') ∧ SQ P ops Q L0 R0 brk eff lds r (a.put o.dst v) w') : SQ P ops Q L0 R0 brk eff lds (i :: r) a w :=
  q_eff hi he hw fun K hk => by
    subst ha
    obtain ⟨fn, c, h1, h2, h3⟩ := hb
    have hr : (execOp a.eval o).run P w = .ok (.enter f (xs.map a.eval).toArray) w := by
      unfold execOp
      simp [ho, resolve, invoke, Deferred.ofValue, Act.eval, run_enter h1 h2 h3]
    unfold Oper.wp
    rw [hr, Oper.upon_enter]
    exact h.mono fun e w' hF => by obtain ⟨v, rfl, hs, hq⟩ := hK e w' hF; exact hk _ _ hs hq
theorem q_store1 (A B : List Ent) {x y : Operand} {T : TypeId} {g n : Nat} {cs : List Value} {t : TypeId} (hi : oAt ops i = some o) (ho : o.op = .store T x y) (hx : EvR a x (.pointer (some ⟨g, n, none⟩))) [OneT P T] {v : Value} (hy : EvR a y v)
    (X : St S w0 w (A ++ ⟨g, cs, t⟩ :: B) R) (hn : n < cs.length) (h1 : v.oneCell' = true) (hc : v.cells = #[v]) (he : eff.contains i = true) (hw : Region.wanted o (yielded ops a.tmps) = true)
    (h : ∀ w', St S w0 w' (A ++ ⟨g, upd n [v] cs, t⟩ :: B) R → (brk.contains i = false → Kept L0 R0 w → Kept L0 R0 w') ∧ SQ P ops Q L0 R0 brk eff lds r (a.put o.dst undef) w') : SQ P ops Q L0 R0 brk eff lds (i :: r) a w :=
  q_eff hi he hw fun K hk => by
    have ht := X.there (g := g) (cs := cs) (t := t) (i := n) (n := 1) (by simp) (by omega)
    obtain ⟨h2, h3⟩ := h _ (by simpa using X.wrote A B n [v] (show n + 1 ≤ cs.length from hn))
    unfold Oper.wp execOp
    simp only [ho, hx.eval, hy.eval, Instr.storeAt, Instr.sureAddr, Sem.run_bind, Sem.run_pure, Result.andThen_ok, run_storeOne (T := T) ht h1 hc]
    exact hk _ _ h2 h3
theorem q_storeN (A B : List Ent) {x y : Operand} {T : TypeId} {g n m : Nat} {cs : List Value} {t : TypeId} (hi : oAt ops i = some o) (ho : o.op = .store T x y) (hx : EvR a x (.pointer (some ⟨g, n, none⟩))) [hT : AggT P T m] {vs : List Value} (hy : a.eval y = .agg vs.toArray)
    (X : St S w0 w (A ++ ⟨g, cs, t⟩ :: B) R) (hm : vs.length = m) (hn : n + vs.length ≤ cs.length) (h1 : vs.all (·.oneCell') = true) (he : eff.contains i = true) (hw : Region.wanted o (yielded ops a.tmps) = true)
    (h : ∀ w', St S w0 w' (A ++ ⟨g, upd n vs cs, t⟩ :: B) R → (brk.contains i = false → Kept L0 R0 w → Kept L0 R0 w') ∧ SQ P ops Q L0 R0 brk eff lds r (a.put o.dst undef) w') : SQ P ops Q L0 R0 brk eff lds (i :: r) a w :=
  q_eff hi he hw fun K hk => by
    obtain ⟨h2, h3⟩ := h _ (by simpa using X.wrote A B n vs hn)
    exact wp_store_mid T x y ho g n vs.toArray hx.eval hy (X.there (cs := cs) (t := t) (by simp) (by simpa using hn)) (by rw [hT.size]; simp [hm]) (by simpa using h1) (hk _ _ (by simpa using h2) (by simpa using h3))
/-- A new block of noughts. -/
theorem q_alloc {T : TypeId} (hi : oAt ops i = some o) (ho : o.op = .alloc T) {cs : List Value} [hT : ZeroT P T cs] (X : St S w0 w L R) (hL : Under L0 R0 L R) (he : eff.contains i = true) (hw : Region.wanted o (yielded ops a.tmps) = true)
    (h : ∀ g w', St S w0 w' (⟨g, cs, T⟩ :: L) R → Under L0 R0 (⟨g, cs, T⟩ :: L) R → SQ P ops Q L0 R0 brk eff lds r (a.put o.dst (.pointer (some ⟨g, 0, none⟩))) w') : SQ P ops Q L0 R0 brk eff lds (i :: r) a w :=
  q_eff hi he hw fun K hk => by
    have hz := hT.zero
    cases hq : P.info? T with
    | none => simp [hq] at hz
    | some x =>
      cases hs : x.zero with
      | none => simp [hq, hs] at hz
      | some z =>
        have hc : z.cells = cs.toArray := by simpa [hq, hs] using hz
        have hL' : Under L0 R0 ((⟨w.heap.size, cs, T⟩ : Ent) :: L) R := ⟨hL.l.cons _, hL.r⟩
        unfold Oper.wp execOp
        simp only [ho, Instr.alloc, zeroValue, typeInfo, newVar, newRow, newObj, Sem.run_bind, Sem.run_pure, Result.andThen_ok]
        simp [hq, hs, hc]
        exact hk _ _ (fun _ _ => (X.alloc cs T).keeps hL') (h _ _ (X.alloc cs T) hL')
end
end Wb

namespace Wb
open Go Go.RowKit
set_option linter.unusedVariables false
set_option linter.unusedSimpArgs false
section
variable {P : Program} {ops : Array Oper} {Q : Exit → Act → World → Prop} {md : Region.Mode} {S : World → Prop} {brk eff lds : List Nat}
/-- The same exits, another end. -/
def endE (Q : Exit → Act → World → Prop) (E : Act → World → Prop) : Exit → Act → World → Prop
  | .normal => E
  | e => Q e
theorem wpOp_congQ {Q' : Exit → Act → World → Prop} {i : Nat} {K : Act → World → Prop} {a : Act} {w : World} (hp : ∀ c, Q (.panic c) = Q' (.panic c)) (ho : Q .outgrown = Q' .outgrown) (h : wpOp P ops Q i K a w) : wpOp P ops Q' i K a w := by
  have hl : LetsOut Q = LetsOut Q' := by unfold LetsOut; rw [ho]
  unfold wpOp at *
  split
  · simpa [*] using h
  · rename_i o hoi
    simp only [hoi] at h
    split
    · rename_i hw
      simp only [hw, if_true] at h
      refine h.imp (fun h => ?_) (fun h => ⟨h.1, hl ▸ h.2⟩)
      unfold Oper.wp at *
      generalize (execOp a.eval o).run P w = r at *
      cases r with
      | ok n w' =>
        cases n <;> simp only [Oper.upon] at h ⊢ <;> first | exact h | exact Calls.mono h (fun e w'' he => by cases e <;> first | exact he | (simp only [← hp]; exact he) | (simp only [← hl]; exact he))
      | halt x w' => cases x <;> simp only [Oper.upon] at h ⊢ <;> first | exact h | (rw [← hp]; exact h)
    · rename_i hw; simp only [hw] at h; exact h
def marks (x : Array Bool) : List Nat → Array Bool
  | [] => x
  | i :: r => marks (x.setIfInBounds i true) r
/-- A beginning of an order. -/
def begOk (md : Region.Mode) (ops : Array Oper) (brk eff lds : List Nat) : Array Bool → List Nat → Bool
  | _, [] => true
  | x, i :: r => (if eff.contains i = true then Region.ready md ops x == [i] else (Region.ready md ops x).contains i && Region.free md ops x i && (!lds.contains i || brk.all (fun b => waitB md ops b i))) && begOk md ops brk eff lds (x.setIfInBounds i true) r
theorem Seq.anyE {E : Act → World → Prop} (hs : Region.noSelect ops = true) (n : Nat) : ∀ (r : List Nat) (x : Array Bool) (a : Act) (w : World), begOk md ops brk eff lds x r = true → Seq P ops (endE Q E) S brk eff lds r a w → (∀ b v, E b v → AnyS P md ops Q S brk n (marks x r) b v) → AnyS P md ops Q S brk (r.length + n) x a w
  | [], x, a, w, _, h, hE => by rw [List.length_nil, Nat.zero_add]; exact hE a w h
  | i :: r, x, a, w, hk, h, hE => by
    unfold begOk at hk
    rw [Bool.and_eq_true] at hk
    obtain ⟨h1, h2⟩ := hk
    unfold Seq at h
    rw [List.length_cons, Nat.add_right_comm]
    split at h
    · rename_i he
      rw [if_pos he] at h1
      have hr : Region.ready md ops x = [i] := by simpa using h1
      refine ⟨fun e => (by rw [hr] at e; cases e), fun j hj => ?_⟩
      rw [hr] at hj
      obtain rfl : j = i := by simpa using hj
      exact wpOp_mono (fun b v hh => ⟨hh.1, Seq.anyE hs n r _ b v h2 hh.2 hE⟩) (wpOp_congQ (Q := endE Q E) (Q' := Q) (fun _ => rfl) rfl h)
    · rename_i he
      rw [if_neg he, Bool.and_eq_true, Bool.and_eq_true] at h1
      obtain ⟨⟨h3, h4⟩, h5⟩ := h1
      split at h
      · rename_i hl
        rw [hl, Bool.not_true, Bool.false_or] at h5
        obtain ⟨o, v, hi, hy, hS, hQ, hn⟩ := h
        exact AnyS.take (Q := Q) hi (Region.noSelect_spec hs) hQ (.inl ⟨rfl, h5⟩) (r.length + n) x a w (fun j oj hj hne hun hno => Region.free_spec hi h4 j oj hj hne hun hno) (by simpa using h3) hy hS (Seq.anyE hs n r _ _ _ h2 hn hE)
      · obtain ⟨o, v, hi, hy, hQ, hn⟩ := h
        exact AnyS.take (Q := Q) hi (Region.noSelect_spec hs) hQ (.inr fun _ => trivial) (r.length + n) x a w (fun j oj hj hne hun hno => Region.free_spec hi h4 j oj hj hne hun hno) (by simpa using h3) hy trivial (Seq.anyE hs n r _ _ _ h2 hn hE)
/-- An order, as a tree: where two effects may come, both ways. -/
inductive Tr where
  | fin (p : List Nat)
  | fork (p : List Nat) (t u : Tr)
def Tr.len : Tr → Nat
  | .fin p => p.length
  | .fork p t _ => p.length + t.len
def Tr.head : Tr → Option Nat
  | .fin p => p.head?
  | .fork p _ _ => p.head?
def SeqT (P : Program) (ops : Array Oper) (Q : Exit → Act → World → Prop) (S : World → Prop) (brk eff lds : List Nat) : Tr → Act → World → Prop
  | .fin p, a, w => Seq P ops Q S brk eff lds p a w
  | .fork p t u, a, w => Seq P ops (endE Q fun a w => SeqT P ops Q S brk eff lds t a w ∧ SeqT P ops Q S brk eff lds u a w) S brk eff lds p a w
/-- A beginning whose first is an effect that has been told to be one of those that are ready. -/
def hdOk (md : Region.Mode) (ops : Array Oper) (brk eff lds : List Nat) (x : Array Bool) : List Nat → Bool
  | [] => false
  | i :: r => eff.contains i && begOk md ops brk eff lds (x.setIfInBounds i true) r
def trOk (md : Region.Mode) (ops : Array Oper) (brk eff lds : List Nat) : Bool → Array Bool → Tr → Bool
  | hd, x, .fin p => (if hd then hdOk md ops brk eff lds x p else begOk md ops brk eff lds x p) && (Region.ready md ops (marks x p)).isEmpty
  | hd, x, .fork p t u => (if hd then hdOk md ops brk eff lds x p else begOk md ops brk eff lds x p) &&
      ((t.head.toList ++ u.head.toList) == Region.ready md ops (marks x p) && (t.len == u.len && (trOk md ops brk eff lds true (marks x p) t && trOk md ops brk eff lds true (marks x p) u)))
/-- What is shown of a tree: all its orders; or of what begins with its head. -/
def Shows (P : Program) (md : Region.Mode) (ops : Array Oper) (Q : Exit → Act → World → Prop) (S : World → Prop) (brk : List Nat) (hd : Bool) (n : Nat) (h : Option Nat) (x : Array Bool) (a : Act) (w : World) : Prop :=
  if hd then ∃ i m, h = some i ∧ n = m + 1 ∧ wpOp P ops Q i (fun b v => (brk.contains i = false → S w → S v) ∧ AnyS P md ops Q S brk m (x.setIfInBounds i true) b v) a w else AnyS P md ops Q S brk n x a w
theorem Seq.shows {E : Act → World → Prop} (hs : Region.noSelect ops = true) (hd : Bool) (n : Nat) (p : List Nat) (x : Array Bool) (a : Act) (w : World)
    (hk : (if hd then hdOk md ops brk eff lds x p else begOk md ops brk eff lds x p) = true) (h : Seq P ops (endE Q E) S brk eff lds p a w) (hE : ∀ b v, E b v → AnyS P md ops Q S brk n (marks x p) b v) :
    Shows P md ops Q S brk hd (p.length + n) p.head? x a w := by
  unfold Shows
  cases hd with
  | false => exact Seq.anyE hs n p x a w hk h hE
  | true =>
    cases p with
    | nil => cases hk
    | cons i r =>
      simp only [if_true] at hk ⊢
      unfold hdOk at hk
      rw [Bool.and_eq_true] at hk
      unfold Seq at h
      rw [if_pos hk.1] at h
      exact ⟨i, r.length + n, rfl, by rw [List.length_cons]; omega, wpOp_mono (fun b v hh => ⟨hh.1, Seq.anyE hs n r _ b v hk.2 hh.2 hE⟩) (wpOp_congQ (Q := endE Q E) (Q' := Q) (fun _ => rfl) rfl h)⟩
theorem endE_self : endE Q (Q .normal) = Q := by funext e; cases e <;> rfl
theorem SeqT.shows (hs : Region.noSelect ops = true) : ∀ (t : Tr) (hd : Bool) (x : Array Bool) (a : Act) (w : World), trOk md ops brk eff lds hd x t = true → SeqT P ops Q S brk eff lds t a w → Shows P md ops Q S brk hd t.len t.head x a w
  | .fin p, hd, x, a, w, hk, h => by
    unfold trOk at hk
    rw [Bool.and_eq_true] at hk
    unfold SeqT at h
    rw [← endE_self (Q := Q)] at h
    exact Seq.shows hs hd 0 p x a w hk.1 h fun b v hb => ⟨List.isEmpty_iff.1 hk.2, hb⟩
  | .fork p t u, hd, x, a, w, hk, h => by
    unfold trOk at hk
    rw [Bool.and_eq_true, Bool.and_eq_true, Bool.and_eq_true, Bool.and_eq_true] at hk
    obtain ⟨h1, h2, h3, h4, h5⟩ := hk
    unfold SeqT at h
    refine Seq.shows hs hd t.len p x a w h1 h fun b v hb => ?_
    have ht := SeqT.shows hs t true _ b v h4 hb.1
    have hu := SeqT.shows hs u true _ b v h5 hb.2
    unfold Shows at ht hu
    rw [if_pos rfl] at ht hu
    obtain ⟨i, m, hi, hm, hwi⟩ := ht
    obtain ⟨j, k, hj, hk, hwj⟩ := hu
    have h6 : t.len = u.len := by simpa using h3
    obtain rfl : m = k := by omega
    rw [hi, hj] at h2
    have hr : Region.ready md ops (marks x p) = [i, j] := (show [i, j] = Region.ready md ops (marks x p) from beq_iff_eq.1 h2).symm
    rw [hm]
    refine ⟨fun e => (by rw [hr] at e; cases e), fun l hl => ?_⟩
    rw [hr] at hl
    rcases List.mem_cons.1 hl with rfl | hl
    · exact hwi
    · obtain rfl : l = j := by simpa using hl
      exact hwj
end
section
variable {P : Program} {ops : Array Oper} {Q : Exit → Act → World → Prop} {L0 : List Ent} {brk eff lds : List Nat} {i : Nat} {r : List Nat} {o : Oper} {a : Act} {S : List Nat} {w0 w : World} {L : List Ent} {R R0 : List Rd}
abbrev SQT (P : Program) (ops : Array Oper) (Q : Exit → Act → World → Prop) (L0 : List Ent) (R0 : List Rd) (brk eff lds : List Nat) : Tr → Act → World → Prop := SeqT P ops Q (Kept L0 R0) brk eff lds
/-- THE BEGINNING of a tree. -/
theorem q_tree {id : Nat} (k : Nat) (brk eff lds : List Nat) (t : Tr) (X : St S w0 w L R) (hm : P.follows .mixedOrders = true) (hs : (Region.noSelect ops && (t.len == ops.size && trOk .any ops brk eff lds false (Array.replicate ops.size false) t)) = true) (hQ : NoLook Q)
    (h : NoLook Q → St S w0 w.drew L R → Under (L.take k) R L R → SQT P ops Q (L.take k) R brk eff lds t a w.drew) : (Code.region id ops true).wp P Q a w := by
  rw [Bool.and_eq_true, Bool.and_eq_true] at hs
  obtain ⟨h1, h2, h3⟩ := hs
  have := SeqT.shows h1 t false _ a _ h3 (h hQ X.drew ⟨List.take_sublist _ _, fun _ h => h⟩)
  unfold Shows at this
  rw [if_neg (by decide), show t.len = ops.size by simpa using h2] at this
  exact wp_region_any hm (AnyS.any _ _ _ _ this)
theorem NoLook.endE (h : NoLook Q) (E : Act → World → Prop) : NoLook (endE Q E) := h
theorem t_fork {p : List Nat} {t u : Tr} (h : NoLook (endE Q fun a w => SQT P ops Q L0 R0 brk eff lds t a w ∧ SQT P ops Q L0 R0 brk eff lds u a w) → SQ P ops (endE Q fun a w => SQT P ops Q L0 R0 brk eff lds t a w ∧ SQT P ops Q L0 R0 brk eff lds u a w) L0 R0 brk eff lds p a w) (hQ : NoLook Q) : SQT P ops Q L0 R0 brk eff lds (.fork p t u) a w := h (hQ.endE _)
theorem t_fin {p : List Nat} (h : SQ P ops Q L0 R0 brk eff lds p a w) : SQT P ops Q L0 R0 brk eff lds (.fin p) a w := h
theorem t_two {A B : Act → World → Prop} (h1 : A a w) (h2 : B a w) : SQ P ops (endE Q fun a w => A a w ∧ B a w) L0 R0 brk eff lds [] a w := ⟨h1, h2⟩
/-- An effect whose guard says no. -/
theorem q_skipE (hi : oAt ops i = some o) (he : eff.contains i = true) (hw : Region.wanted o (yielded ops a.tmps) = false)
    (h : SQ P ops Q L0 R0 brk eff lds r (a.put o.dst undef) w) : SQ P ops Q L0 R0 brk eff lds (i :: r) a w := by
  unfold SQ Seq
  rw [if_pos he]
  unfold wpOp
  rw [oAt_get hi]
  simp only [hw]
  exact ⟨fun _ h => h, h⟩
/-- A reading whose guard says no. -/
theorem q_skipL (hi : oAt ops i = some o) (he : (!eff.contains i && lds.contains i) = true) (hw : Region.wanted o (yielded ops a.tmps) = false) (X : St S w0 w L R) (hL : Under L0 R0 L R) (hQ : NoLook Q)
    (h : SQ P ops Q L0 R0 brk eff lds r (a.put o.dst undef) w) : SQ P ops Q L0 R0 brk eff lds (i :: r) a w := by
  rw [Bool.and_eq_true, Bool.not_eq_true'] at he
  unfold SQ Seq
  rw [if_neg (by rw [he.1]; decide), if_pos he.2]
  exact ⟨o, undef, oAt_get hi, .inr ⟨hw, rfl⟩, X.keeps hL, fun c a w hh => hQ.all c a o.dst undef w hh, h⟩
/-- A store past what is kept. -/
theorem q_put1 (A B : List Ent) {x y : Operand} {T : TypeId} {g n : Nat} {cs : List Value} {t : TypeId} (hi : oAt ops i = some o) (ho : o.op = .store T x y) (hx : EvR a x (.pointer (some ⟨g, n, none⟩))) [OneT P T] {v : Value} (hy : EvR a y v)
    (X : St S w0 w (A ++ ⟨g, cs, t⟩ :: B) R) (hn : n < cs.length) (h1 : v.oneCell' = true) (hc : v.cells = #[v]) (he : eff.contains i = true) (hw : Region.wanted o (yielded ops a.tmps) = true) (hL : Under L0 R0 (A ++ ⟨g, cs, t⟩ :: B) R) (hA : L0.Sublist (A ++ B))
    (h : ∀ w', St S w0 w' (A ++ ⟨g, upd n [v] cs, t⟩ :: B) R → Under L0 R0 (A ++ ⟨g, upd n [v] cs, t⟩ :: B) R → SQ P ops Q L0 R0 brk eff lds r (a.put o.dst undef) w') : SQ P ops Q L0 R0 brk eff lds (i :: r) a w :=
  q_store1 A B hi ho hx hy X hn h1 hc he hw fun w' X2 => by
    have h3 : Under L0 R0 (A ++ ⟨g, upd n [v] cs, t⟩ :: B) R := ⟨hA.trans (List.Sublist.append_left (List.sublist_cons_self _ _) _), hL.r⟩
    exact ⟨fun _ _ => X2.keeps h3, h w' X2 h3⟩
theorem q_putN (A B : List Ent) {x y : Operand} {T : TypeId} {g n m : Nat} {cs : List Value} {t : TypeId} (hi : oAt ops i = some o) (ho : o.op = .store T x y) (hx : EvR a x (.pointer (some ⟨g, n, none⟩))) [hT : AggT P T m] {vs : List Value} (hy : a.eval y = .agg vs.toArray)
    (X : St S w0 w (A ++ ⟨g, cs, t⟩ :: B) R) (hm : vs.length = m) (hn : n + vs.length ≤ cs.length) (h1 : vs.all (·.oneCell') = true) (he : eff.contains i = true) (hw : Region.wanted o (yielded ops a.tmps) = true) (hL : Under L0 R0 (A ++ ⟨g, cs, t⟩ :: B) R) (hA : L0.Sublist (A ++ B))
    (h : ∀ w', St S w0 w' (A ++ ⟨g, upd n vs cs, t⟩ :: B) R → Under L0 R0 (A ++ ⟨g, upd n vs cs, t⟩ :: B) R → SQ P ops Q L0 R0 brk eff lds r (a.put o.dst undef) w') : SQ P ops Q L0 R0 brk eff lds (i :: r) a w :=
  q_storeN A B hi ho hx hy X hm hn h1 he hw fun w' X2 => by
    have h3 : Under L0 R0 (A ++ ⟨g, upd n vs cs, t⟩ :: B) R := ⟨hA.trans (List.Sublist.append_left (List.sublist_cons_self _ _) _), hL.r⟩
    exact ⟨fun _ _ => X2.keeps h3, h w' X2 h3⟩
end
end Wb

namespace Wb
open Go Go.RowKit
set_option linter.unusedVariables false
set_option linter.unusedSimpArgs false
/-- Cell i of the known block g holds v. -/
inductive ReadA : List Ent → Nat → Nat → Value → Prop where
  | here {g : Nat} {cs : List Value} {t : TypeId} {L : List Ent} {i : Nat} {v : Value} (h : nth cs i = some v) : ReadA (⟨g, cs, t⟩ :: L) g i v
  | there {e : Ent} {L : List Ent} {g i : Nat} {v : Value} (h : ReadA L g i v) : ReadA (e :: L) g i v
/-- n cells of the known block g, from i on. -/
inductive ReadB : List Ent → Nat → Nat → Nat → List Value → Prop where
  | here {g : Nat} {cs : List Value} {t : TypeId} {L : List Ent} {i n : Nat} (h : i + n ≤ cs.length) : ReadB (⟨g, cs, t⟩ :: L) g i n ((cs.drop i).take n)
  | there {e : Ent} {L : List Ent} {g i n : Nat} {vs : List Value} (h : ReadB L g i n vs) : ReadB (e :: L) g i n vs
/-- What is known behind a store of vs into block g, from i on; and all the other blocks. -/
inductive PutA : List Ent → Nat → Nat → List Value → List Ent → List Ent → Prop where
  | here {g : Nat} {cs : List Value} {t : TypeId} {L : List Ent} {i : Nat} {vs : List Value} (h : i + vs.length ≤ cs.length) : PutA (⟨g, cs, t⟩ :: L) g i vs (⟨g, upd i vs cs, t⟩ :: L) L
  | there {e : Ent} {L : List Ent} {g i : Nat} {vs : List Value} {L' B : List Ent} (h : PutA L g i vs L' B) : PutA (e :: L) g i vs (e :: L') (e :: B)
theorem ReadA.spec {L : List Ent} {g i : Nat} {v : Value} (h : ReadA L g i v) : ∃ cs t, (⟨g, cs, t⟩ : Ent) ∈ L ∧ nth cs i = some v := by
  induction h with
  | here h => exact ⟨_, _, .head _, h⟩
  | there _ ih => obtain ⟨cs, t, h1, h2⟩ := ih; exact ⟨cs, t, .tail _ h1, h2⟩
theorem ReadB.spec {L : List Ent} {g i n : Nat} {vs : List Value} (h : ReadB L g i n vs) : ∃ cs t, (⟨g, cs, t⟩ : Ent) ∈ L ∧ i + n ≤ cs.length ∧ vs = (cs.drop i).take n := by
  induction h with
  | here h => exact ⟨_, _, .head _, h, rfl⟩
  | there _ ih => obtain ⟨cs, t, h1, h2⟩ := ih; exact ⟨cs, t, .tail _ h1, h2⟩
theorem PutA.spec {L : List Ent} {g i : Nat} {vs : List Value} {L' D : List Ent} (h : PutA L g i vs L' D) : ∃ A B cs t, L = A ++ ⟨g, cs, t⟩ :: B ∧ L' = A ++ ⟨g, upd i vs cs, t⟩ :: B ∧ D = A ++ B ∧ i + vs.length ≤ cs.length := by
  induction h with
  | here h => exact ⟨[], _, _, _, rfl, rfl, rfl, h⟩
  | there _ ih => obtain ⟨A, B, cs, t, rfl, rfl, rfl, h⟩ := ih; exact ⟨_ :: A, B, cs, t, rfl, rfl, rfl, h⟩
section
variable {P : Program} {ops : Array Oper} {rest : List Oper} {o : Oper} {a : Act} {Q : Exit → Act → World → Prop} {S : List Nat} {w0 w : World} {L : List Ent} {R : List Rd}
theorem c_load1 (hw : Region.wanted o (yielded ops a.tmps) = true) (T : TypeId) (x : Operand) (ho : o.op = .load T x) {g i : Nat} (hx : a.eval x = .pointer (some ⟨g, i, none⟩)) [OneT P T] (X : St S w0 w L R) {v : Value} (he : ReadA L g i v)
    (h : wpList P ops Q rest (a.put o.dst v) w) : wpList P ops Q (o :: rest) a w := by
  obtain ⟨cs, t, h1, h2⟩ := he.spec
  exact m_load1 hw T x ho hx X h1 h2 h
theorem c_loadN (hw : Region.wanted o (yielded ops a.tmps) = true) (T : TypeId) (x : Operand) (ho : o.op = .load T x) {g i : Nat} (hx : a.eval x = .pointer (some ⟨g, i, none⟩)) {n : Nat} [hT : AggT P T n] (X : St S w0 w L R) {vs : List Value} (he : ReadB L g i n vs)
    (h : wpList P ops Q rest (a.put o.dst (.agg vs.toArray)) w) : wpList P ops Q (o :: rest) a w := by
  obtain ⟨cs, t, h1, h2, rfl⟩ := he.spec
  exact m_loadN hw T x ho hx X h1 h2 h
theorem c_store1 (hw : Region.wanted o (yielded ops a.tmps) = true) (T : TypeId) (x y : Operand) (ho : o.op = .store T x y) {g i : Nat} (hx : a.eval x = .pointer (some ⟨g, i, none⟩)) [hT : OneT P T]
    {v : Value} (hy0 : EvR a y v) (X : St S w0 w L R) (h1 : v.oneCell' = true) (hc : v.cells = #[v]) {L' D : List Ent} (hp : PutA L g i [v] L' D)
    (h : ∀ w', St S w0 w' L' R → wpList P ops Q rest (a.put o.dst undef) w') : wpList P ops Q (o :: rest) a w := by
  obtain ⟨A, B, cs, t, rfl, rfl, rfl, hi⟩ := hp.spec
  exact m_store1 A B hw T x y ho hx hy0 X hi h1 hc h
theorem c_storeN (hw : Region.wanted o (yielded ops a.tmps) = true) (T : TypeId) (x y : Operand) (ho : o.op = .store T x y) {g i : Nat} (hx : a.eval x = .pointer (some ⟨g, i, none⟩)) {n : Nat} [hT : AggT P T n]
    {vs : List Value} (hy : a.eval y = .agg vs.toArray) (X : St S w0 w L R) (hn : vs.length = n) (h1 : vs.all (·.oneCell') = true) {L' D : List Ent} (hp : PutA L g i vs L' D)
    (h : ∀ w', St S w0 w' L' R → wpList P ops Q rest (a.put o.dst undef) w') : wpList P ops Q (o :: rest) a w := by
  obtain ⟨A, B, cs, t, rfl, rfl, rfl, hi⟩ := hp.spec
  exact m_storeN A B hw T x y ho hx hy X hn hi h1 h
end
section
variable {P : Program} {ops : Array Oper} {Q : Exit → Act → World → Prop} {L0 : List Ent} {R0 : List Rd} {brk eff lds : List Nat} {i : Nat} {r : List Nat} {o : Oper} {a : Act} {S : List Nat} {w0 w : World} {L : List Ent} {R : List Rd}
theorem d_load1 {x : Operand} {T : TypeId} {g n : Nat} (hi : oAt ops i = some o) (ho : o.op = .load T x) (hx : EvR a x (.pointer (some ⟨g, n, none⟩))) [OneT P T] {v : Value} (hm : ReadA L0 g n v)
    (he : (!eff.contains i && lds.contains i) = true) (hw : Region.wanted o (yielded ops a.tmps) = true) (X : St S w0 w L R) (hL : Under L0 R0 L R) (hQ : NoLook Q)
    (h : SQ P ops Q L0 R0 brk eff lds r (a.put o.dst v) w) : SQ P ops Q L0 R0 brk eff lds (i :: r) a w := by
  obtain ⟨cs, t, h1, h2⟩ := hm.spec
  exact q_load1 hi ho hx h1 h2 he hw X hL hQ h
theorem d_loadN {x : Operand} {T : TypeId} {g n m : Nat} (hi : oAt ops i = some o) (ho : o.op = .load T x) (hx : EvR a x (.pointer (some ⟨g, n, none⟩))) [hT : AggT P T m] {vs : List Value} (hm : ReadB L0 g n m vs)
    (he : (!eff.contains i && lds.contains i) = true) (hw : Region.wanted o (yielded ops a.tmps) = true) (X : St S w0 w L R) (hL : Under L0 R0 L R) (hQ : NoLook Q)
    (h : SQ P ops Q L0 R0 brk eff lds r (a.put o.dst (.agg vs.toArray)) w) : SQ P ops Q L0 R0 brk eff lds (i :: r) a w := by
  obtain ⟨cs, t, h1, h2, rfl⟩ := hm.spec
  exact q_loadN hi ho hx h1 h2 he hw X hL hQ h
/-- A store that ends what is kept: it is one of 'brk'. -/
theorem d_brk1 {x y : Operand} {T : TypeId} {g n : Nat} (hi : oAt ops i = some o) (ho : o.op = .store T x y) (hx : EvR a x (.pointer (some ⟨g, n, none⟩))) [OneT P T] {v : Value} (hy : EvR a y v)
    (X : St S w0 w L R) (h1 : v.oneCell' = true) (hc : v.cells = #[v]) (he : eff.contains i = true) (hb : brk.contains i = true) (hw : Region.wanted o (yielded ops a.tmps) = true) {L' D : List Ent} (hp : PutA L g n [v] L' D)
    (h : ∀ w', St S w0 w' L' R → SQ P ops Q L0 R0 brk eff lds r (a.put o.dst undef) w') : SQ P ops Q L0 R0 brk eff lds (i :: r) a w := by
  obtain ⟨A, B, cs, t, rfl, rfl, rfl, hn⟩ := hp.spec
  exact q_store1 A B hi ho hx hy X hn h1 hc he hw fun w' X2 => ⟨fun hb2 _ => (by rw [hb] at hb2; cases hb2), h w' X2⟩
theorem d_brkN {x y : Operand} {T : TypeId} {g n m : Nat} (hi : oAt ops i = some o) (ho : o.op = .store T x y) (hx : EvR a x (.pointer (some ⟨g, n, none⟩))) [hT : AggT P T m] {vs : List Value} (hy : a.eval y = .agg vs.toArray)
    (X : St S w0 w L R) (hm : vs.length = m) (h1 : vs.all (·.oneCell') = true) (he : eff.contains i = true) (hb : brk.contains i = true) (hw : Region.wanted o (yielded ops a.tmps) = true) {L' D : List Ent} (hp : PutA L g n vs L' D)
    (h : ∀ w', St S w0 w' L' R → SQ P ops Q L0 R0 brk eff lds r (a.put o.dst undef) w') : SQ P ops Q L0 R0 brk eff lds (i :: r) a w := by
  obtain ⟨A, B, cs, t, rfl, rfl, rfl, hn⟩ := hp.spec
  exact q_storeN A B hi ho hx hy X hm hn h1 he hw fun w' X2 => ⟨fun hb2 _ => (by rw [hb] at hb2; cases hb2), h w' X2⟩
/-- A store past what is kept. -/
theorem d_put1 {x y : Operand} {T : TypeId} {g n : Nat} (hi : oAt ops i = some o) (ho : o.op = .store T x y) (hx : EvR a x (.pointer (some ⟨g, n, none⟩))) [OneT P T] {v : Value} (hy : EvR a y v)
    (X : St S w0 w L R) (h1 : v.oneCell' = true) (hc : v.cells = #[v]) (he : eff.contains i = true) (hw : Region.wanted o (yielded ops a.tmps) = true) (hL : Under L0 R0 L R) {L' D : List Ent} (hp : PutA L g n [v] L' D) (hA : L0.Sublist D)
    (h : ∀ w', St S w0 w' L' R → Under L0 R0 L' R → SQ P ops Q L0 R0 brk eff lds r (a.put o.dst undef) w') : SQ P ops Q L0 R0 brk eff lds (i :: r) a w := by
  obtain ⟨A, B, cs, t, rfl, rfl, rfl, hn⟩ := hp.spec
  exact q_put1 A B hi ho hx hy X hn h1 hc he hw hL hA h
theorem d_putN {x y : Operand} {T : TypeId} {g n m : Nat} (hi : oAt ops i = some o) (ho : o.op = .store T x y) (hx : EvR a x (.pointer (some ⟨g, n, none⟩))) [hT : AggT P T m] {vs : List Value} (hy : a.eval y = .agg vs.toArray)
    (X : St S w0 w L R) (hm : vs.length = m) (h1 : vs.all (·.oneCell') = true) (he : eff.contains i = true) (hw : Region.wanted o (yielded ops a.tmps) = true) (hL : Under L0 R0 L R) {L' D : List Ent} (hp : PutA L g n vs L' D) (hA : L0.Sublist D)
    (h : ∀ w', St S w0 w' L' R → Under L0 R0 L' R → SQ P ops Q L0 R0 brk eff lds r (a.put o.dst undef) w') : SQ P ops Q L0 R0 brk eff lds (i :: r) a w := by
  obtain ⟨A, B, cs, t, rfl, rfl, rfl, hn⟩ := hp.spec
  exact q_putN A B hi ho hx hy X hm hn h1 he hw hL hA h
end
end Wb

namespace Wb
open Go Go.RowKit
set_option linter.unusedVariables false
set_option linter.unusedSimpArgs false
theorem fillOne (off : Nat) : ∀ (l : List (Value × Nat)) (cs : Array Value) (j : Nat), (l.foldl (fun cs (x : Value × Nat) => cs.setIfInBounds (off + x.2) x.1) cs).size = cs.size
  | [], _, _ => rfl
  | x :: l, cs, j => by rw [List.foldl_cons, fillOne off l _ j]; simp
theorem fillAt (off : Nat) : ∀ (vs : List Value) (k : Nat) (cs : Array Value), off + k + vs.length ≤ cs.size → ((vs.zipIdx k).foldl (fun cs (x : Value × Nat) => cs.setIfInBounds (off + x.2) x.1) cs).toList = cs.toList.take (off + k) ++ vs ++ cs.toList.drop (off + k + vs.length)
  | [], k, cs, h => by simp
  | v :: vs, k, cs, h => by
    simp only [List.length_cons] at h
    rw [List.zipIdx_cons, List.foldl_cons, fillAt off vs (k + 1) _ (by simp; omega)]
    simp only [Array.toList_setIfInBounds, List.length_cons]
    have hl : cs.toList.length = cs.size := Array.length_toList
    rw [show off + (k + 1) = (off + k) + 1 by omega, List.take_succ_eq_append_getElem (i := off + k) (by simp [hl]; omega)]
    rw [List.take_set_of_le (by omega), List.getElem_set_self, List.drop_set_of_lt (by omega)]
    simp only [List.append_assoc, List.cons_append, List.nil_append]
    rw [show off + k + 1 + vs.length = off + k + (vs.length + 1) by omega]
section
variable {P : Program} {t e : TypeId} {c bytes : Nat} {w : World}
/-- The cells that parts of one size make. -/
theorem run_build (hT : Elem P t e c bytes) (hc : 0 < c) (us : List (List Value)) (vs : List Value) (hv : vs.map (fun v => v.cells.toList) = us) (hs : ∀ u ∈ us, u.length = c) (hb : us.length * c ≤ 16777216) (hn : 0 < us.length) :
    (Instr.buildSlice t us.length (vs.zipIdx.map fun x => (x.2, x.1)).toArray).run P w = .ok (.slice (some ⟨w.heap.size, 0, none⟩) us.length us.length) (w.alloc (.cells us.flatten.toArray e)) := by
  obtain ⟨hu, i, z, hi, hz, hsz, _, hzc⟩ := hT
  have hmul : 0 < us.length * c := Nat.mul_pos hn hc
  have key : ∀ (vs : List Value) (k : Nat) (cs : Array Value), (∀ v ∈ vs, v.cells.toList.length = c) → cs.size = us.length * c → (k + vs.length) * c ≤ us.length * c →
      ∃ ds, Instr.fill (fun i => some (i * c, c)) cs ((vs.zipIdx k).map fun x => (x.2, x.1)) = some ds ∧ ds.toList = cs.toList.take (k * c) ++ (vs.map (fun v => v.cells.toList)).flatten ++ cs.toList.drop ((k + vs.length) * c) := by
    intro vs
    induction vs with
    | nil => intro k cs _ _ _; exact ⟨cs, rfl, by simp⟩
    | cons v vs ih =>
      intro k cs h1 h2 h3
      have hvc : v.cells.size = c := by have := h1 v (by simp); rwa [Array.length_toList] at this
      have h4 : (k + 1) * c ≤ us.length * c := Nat.le_trans (Nat.mul_le_mul_right _ (by simp)) h3
      have h5 : k * c + c = (k + 1) * c := (Nat.succ_mul k c).symm
      rw [List.zipIdx_cons, List.map_cons]
      unfold Instr.fill
      have hcond : (decide (v.cells.size ≠ c) || decide (k * c + v.cells.size > cs.size)) = false := by
        rw [hvc]; simp; omega
      dsimp only
      rw [if_neg (by rw [hcond]; decide)]
      have hf : (v.cells.zipIdx.foldl (fun cs (x : Value × Nat) => cs.setIfInBounds (k * c + x.2) x.1) cs).toList = cs.toList.take (k * c) ++ v.cells.toList ++ cs.toList.drop ((k + 1) * c) := by
        have := fillAt (k * c) v.cells.toList 0 cs (by rw [Array.length_toList, hvc]; omega)
        rw [Nat.add_zero, Array.length_toList, hvc, h5] at this
        rw [← this, ← Array.foldl_toList]
        simp
      obtain ⟨ds, hd1, hd2⟩ := ih (k + 1) (v.cells.zipIdx.foldl (fun cs (x : Value × Nat) => cs.setIfInBounds (k * c + x.2) x.1) cs) (fun u hu => h1 u (by simp [hu])) (by
        rw [← Array.length_toList, hf]; simp only [List.length_append, List.length_take, List.length_drop, Array.length_toList, hvc]; omega) (by rw [show k + 1 + vs.length = k + (vs.length + 1) by omega]; exact h3)
      refine ⟨ds, hd1, ?_⟩
      rw [hd2, hf]
      have hl1 : (cs.toList.take (k * c)).length = k * c := by rw [List.length_take, Array.length_toList]; omega
      have hl2 : (cs.toList.take (k * c) ++ v.cells.toList).length = (k + 1) * c := by rw [List.length_append, hl1, Array.length_toList, hvc, h5]
      rw [List.take_left' hl2, show (k + 1 + vs.length) * c = (k + 1) * c + vs.length * c by rw [Nat.add_mul], ← List.drop_drop, List.drop_left' hl2, List.drop_drop, List.map_cons, List.flatten_cons, List.length_cons]
      rw [show (k + (vs.length + 1)) * c = (k + 1) * c + vs.length * c by rw [← Nat.add_mul]; congr 1; omega]
      simp only [List.append_assoc]
  have hlen : vs.length = us.length := by rw [← hv, List.length_map]
  obtain ⟨ds, hd1, hd2⟩ := key vs 0 ((Array.range (us.length * c)).map (z.cells[· % z.cells.size]!)) (fun v hv' => hs _ (by rw [← hv]; exact List.mem_map_of_mem hv')) (by simp) (by rw [hlen]; simp)
  rw [hlen] at hd2
  have hds : ds = us.flatten.toArray := by
    apply Array.toList_inj.1
    rw [hd2, hv]
    simp
  have hso : (Go.sizeOf e).run P w = .ok c w := by simp [Go.sizeOf, typeInfo, hi, Sem.run_bind, Result.andThen_ok, Sem.run_pure, hsz]
  have hze : (zeroValue e).run P w = .ok z w := by simp [zeroValue, typeInfo, hi, hz, Sem.run_bind, Result.andThen_ok, Sem.run_pure]
  unfold Instr.buildSlice
  rw [Sem.run_bind, run_underlying hu, Result.andThen_ok]
  dsimp only
  rw [Sem.run_bind, hso, Result.andThen_ok]
  have e1 : ¬ us.length * c > 2 ^ 24 := by omega
  have e2 : ¬ us.length * c = 0 := by omega
  simp only [e1, e2, if_false, Sem.run_bind, hze, Result.andThen_ok, Sem.run_pure, List.toList_toArray]
  rw [hd1, hds]
  simp [newRow, newObj, Sem.run_bind, Result.andThen_ok, Sem.run_pure]
  rfl
end
/-- A slice type, its elements' type, how many cells and bytes an element has. -/
class SlT (P : Program) (t : TypeId) (e : outParam TypeId) (c bytes : outParam Nat) : Prop where
  elem : Elem P t e c bytes
  pos : 0 < c
  low : 2 * c ≤ 16777216
  by_ : bytes ≤ 128
section
variable {P : Program} {ops : Array Oper} {Q : Exit → Act → World → Prop} {o : Oper} {rest : List Oper} {a : Act} {S : List Nat} {w0 w : World} {L pre T M : List Ent} {R : List Rd}
theorem exec_build1 {t e : TypeId} {c bytes : Nat} [hT : SlT P t e c bytes] {x : Operand} (ho : o.op = .buildSlice t 1 #[(0, x)]) {v : Value} (hx : EvR a x v) {cs : List Value} (hc : v.cells = cs.toArray) (hl : cs.length = c) :
    (execOp a.eval o).run P w = .ok (.value (.slice (some ⟨w.heap.size, 0, none⟩) 1 1)) (w.alloc (.cells cs.toArray e)) := by
  have hr := run_build (w := w) hT.elem hT.pos [cs] [v] (by simp [hc]) (by simpa using hl) (by have := hT.low; simp; omega) (by simp)
  simp at hr
  unfold execOp
  simp [ho, hx.eval, hr]
theorem exec_build2 {t e : TypeId} {c bytes : Nat} [hT : SlT P t e c bytes] {x y : Operand} (ho : o.op = .buildSlice t 2 #[(0, x), (1, y)]) {v u : Value} (hx : EvR a x v) (hy : EvR a y u) {cs ds : List Value} (hc : v.cells = cs.toArray) (hd : u.cells = ds.toArray) (hl : cs.length = c) (hl2 : ds.length = c) :
    (execOp a.eval o).run P w = .ok (.value (.slice (some ⟨w.heap.size, 0, none⟩) 2 2)) (w.alloc (.cells (cs ++ ds).toArray e)) := by
  have hr := run_build (w := w) hT.elem hT.pos [cs, ds] [v, u] (by simp [hc, hd]) (by simp [hl, hl2]) (by have := hT.low; simp; omega) (by simp)
  simp at hr
  unfold execOp
  simp [ho, hx.eval, hy.eval, hr]
def isBuild : Op → Bool
  | .buildSlice _ _ _ => true
  | _ => false
theorem at_build (_ : isBuild o.op = true) (h : wpList P ops Q (o :: rest) a w) : wpList P ops Q (o :: rest) a w := h
/-- A slice of one element is built. -/
theorem m_build1 (hw : Region.wanted o (yielded ops a.tmps) = true) {t e : TypeId} {c bytes : Nat} {x : Operand} (ho : o.op = .buildSlice t 1 #[(0, x)]) [hT : SlT P t e c bytes] {v : Value} (hx : EvR a x v) {cs : List Value} (hc : v.cells = cs.toArray) (hl : cs.length = c) (X : St S w0 w L R)
    (h : ∀ g w', St S w0 w' (⟨g, cs, e⟩ :: L) R → wpList P ops Q rest (a.put o.dst (.slice (some ⟨g, 0, none⟩) 1 1)) w') : wpList P ops Q (o :: rest) a w :=
  BigFrame.wpList_want hw fun K hK => by
    unfold Oper.wp
    rw [exec_build1 ho hx hc hl]
    exact hK _ _ (h _ _ (X.alloc cs e))
theorem m_build2 (hw : Region.wanted o (yielded ops a.tmps) = true) {t e : TypeId} {c bytes : Nat} {x y : Operand} (ho : o.op = .buildSlice t 2 #[(0, x), (1, y)]) [hT : SlT P t e c bytes] {v u : Value} (hx : EvR a x v) (hy : EvR a y u) {cs ds : List Value} (hc : v.cells = cs.toArray) (hd : u.cells = ds.toArray) (hl : cs.length = c) (hl2 : ds.length = c) (X : St S w0 w L R)
    (h : ∀ g w', St S w0 w' (⟨g, cs ++ ds, e⟩ :: L) R → wpList P ops Q rest (a.put o.dst (.slice (some ⟨g, 0, none⟩) 2 2)) w') : wpList P ops Q (o :: rest) a w :=
  BigFrame.wpList_want hw fun K hK => by
    unfold Oper.wp
    rw [exec_build2 ho hx hy hc hd hl hl2]
    exact hK _ _ (h _ _ (X.alloc (cs ++ ds) e))
theorem exec_app {α : Type} {f : α → List Value} {t e : TypeId} {c bytes : Nat} [hT : SlT P t e c bytes] {s x : Operand} (ho : o.op = .call { callee := .builtin .append, args := #[s, x], argTypes := #[t, t] }) (hF : Flat f c)
    (X : St S w0 w (pre ++ (M ++ T)) R) {v vx : Value} {l : List α} (hO : OwnM f e c v l M) (hs : EvR a s v) (l2 : List α) (hx : EvR a x vx) (hr : RL f w vx l2) (hroom : (l.length + l2.length + (l.length + l2.length) / 4 + 192) * bytes ≤ 281474976710656) (h63 : l.length + l2.length ≤ maxLen) :
    ∃ v' w' M', (execOp a.eval o).run P w = .ok (.value v') w' ∧ OwnM f e c v' (l ++ l2) M' ∧ St S w0 w' (pre ++ (M' ++ T)) R := by
  obtain ⟨v', w', M', h1, h2, h3⟩ := X.pushW (P := P) t o.type bytes hF hT.elem hO l2 hr hroom h63
  refine ⟨v', w', M', ?_, h2, h3⟩
  unfold execOp
  simp only [ho, resolve, invoke, builtin, Sem.run_bind, Sem.run_pure, Result.andThen_ok, List.map_toArray, List.map_cons, List.map_nil, hs.eval, hx.eval, h1]
theorem St.rd0 {g n cap : Nat} {cs : List Value} {t : TypeId} {α : Type} {f : α → List Value} {l2 : List α} (X : St S w0 w (⟨g, cs, t⟩ :: L) R) (hc : l2.flatMap f = cs) (hn : l2.length = n) (h1 : n ≤ cap) (h2 : cap ≤ maxLen) : RL f w (.slice (some ⟨g, 0, none⟩) n cap) l2 := by
  subst hc; subst hn
  exact ⟨_, _, rfl, h1, h2, .inr ⟨g, 0, rfl, fun j u hj => by rw [Nat.zero_add, X.k0.cell]; simpa using hj⟩⟩
theorem St.tail {x : Ent} (X : St S w0 w (x :: L) R) : St S w0 w L R := X.sub (List.sublist_cons_self _ _)
/-- 'append(s, y, ..)', the new elements in the block that was built just now; s in a row of its own. pre: the blocks ahead of that row. -/
theorem m_appB (pre : List Ent) (hw : Region.wanted o (yielded ops a.tmps) = true) {s x : Operand} {t : TypeId} (ho : o.op = .call { callee := .builtin .append, args := #[s, x], argTypes := #[t, t] }) {α : Type} {f : α → List Value} (l2 : List α) {e : TypeId} {c bytes : Nat} [hT : SlT P t e c bytes] (hF : Flat f c)
    {g n : Nat} {cs : List Value} {te : TypeId} (X : St S w0 w (⟨g, cs, te⟩ :: (pre ++ (M ++ T))) R) {v : Value} {l : List α} (hO : OwnM f e c v l M) (hs : EvR a s v) (hx : EvR a x (.slice (some ⟨g, 0, none⟩) n n)) (hc : l2.flatMap f = cs) (hn : l2.length = n) (hroom : (l.length + n + (l.length + n) / 4 + 192) * bytes ≤ 281474976710656) (h63 : l.length + n ≤ 140737488355328)
    (h : ∀ a' cap' w' M', OwnM f e c (.slice a' (l.length + n) cap') (l ++ l2) M' → St S w0 w' (pre ++ (M' ++ T)) R → wpList P ops Q rest (a.put o.dst (.slice a' (l.length + n) cap')) w') : wpList P ops Q (o :: rest) a w :=
  BigFrame.wpList_want hw fun K hK => by
    obtain ⟨v', w', M', h1, h2, h3⟩ := exec_app (P := P) ho hF X.tail hO hs l2 hx (X.rd0 hc hn (Nat.le_refl _) (by unfold maxLen; omega)) (by rw [hn]; exact hroom) (by rw [hn]; unfold maxLen; omega)
    obtain ⟨a', cap', rfl⟩ := h2.form
    have hl : (l ++ l2).length = l.length + n := by rw [List.length_append, hn]
    rw [hl] at h1 h2
    unfold Oper.wp
    rw [h1]
    exact hK _ _ (h a' cap' w' M' h2 h3)
theorem roomB {k n bytes : Nat} (h : k + n ≤ 1099511627776) (hb : bytes ≤ 128) : (k + n + (k + n) / 4 + 192) * bytes ≤ 281474976710656 ∧ k + n ≤ 140737488355328 :=
  ⟨Nat.le_trans (Nat.mul_le_mul (show k + n + (k + n) / 4 + 192 ≤ 1374389534912 by omega) hb) (by decide), by omega⟩
theorem m_app (pre : List Ent) (hw : Region.wanted o (yielded ops a.tmps) = true) {s x : Operand} {t : TypeId} (ho : o.op = .call { callee := .builtin .append, args := #[s, x], argTypes := #[t, t] }) {α : Type} {f : α → List Value} (l2 : List α) {e : TypeId} {c bytes : Nat} [hT : SlT P t e c bytes] (hF : Flat f c)
    {g n : Nat} {cs : List Value} {te : TypeId} (X : St S w0 w (⟨g, cs, te⟩ :: (pre ++ (M ++ T))) R) {v : Value} {l : List α} (hO : OwnM f e c v l M) (hs : EvR a s v) (hx : EvR a x (.slice (some ⟨g, 0, none⟩) n n)) (hc : l2.flatMap f = cs) (hn : l2.length = n) (h40 : l.length + n ≤ 1099511627776)
    (h : ∀ a' cap' w' M', OwnM f e c (.slice a' (l.length + n) cap') (l ++ l2) M' → St S w0 w' (pre ++ (M' ++ T)) R → wpList P ops Q rest (a.put o.dst (.slice a' (l.length + n) cap')) w') : wpList P ops Q (o :: rest) a w :=
  m_appB pre hw ho l2 hF X hO hs hx hc hn (roomB h40 hT.by_).1 (roomB h40 hT.by_).2 h
end
section
variable {P : Program} {ops : Array Oper} {Q : Exit → Act → World → Prop} {L0 : List Ent} {R0 : List Rd} {brk eff lds : List Nat} {i : Nat} {r : List Nat} {o : Oper} {a : Act} {S : List Nat} {w0 w : World} {L M T : List Ent} {R : List Rd}
theorem q_build1 {t e : TypeId} {c bytes : Nat} {x : Operand} (hi : oAt ops i = some o) (ho : o.op = .buildSlice t 1 #[(0, x)]) [hT : SlT P t e c bytes] {v : Value} (hx : EvR a x v) {cs : List Value} (hc : v.cells = cs.toArray) (hl : cs.length = c) (X : St S w0 w L R) (hL : Under L0 R0 L R) (he : eff.contains i = true) (hw : Region.wanted o (yielded ops a.tmps) = true)
    (h : ∀ g w', St S w0 w' (⟨g, cs, e⟩ :: L) R → Under L0 R0 (⟨g, cs, e⟩ :: L) R → SQ P ops Q L0 R0 brk eff lds r (a.put o.dst (.slice (some ⟨g, 0, none⟩) 1 1)) w') : SQ P ops Q L0 R0 brk eff lds (i :: r) a w :=
  q_eff hi he hw fun K hk => by
    have hL' : Under L0 R0 ((⟨w.heap.size, cs, e⟩ : Ent) :: L) R := ⟨hL.l.cons _, hL.r⟩
    unfold Oper.wp
    rw [exec_build1 ho hx hc hl]
    exact hk _ _ (fun _ _ => (X.alloc cs e).keeps hL') (h _ _ (X.alloc cs e) hL')
theorem q_build2 {t e : TypeId} {c bytes : Nat} {x y : Operand} (hi : oAt ops i = some o) (ho : o.op = .buildSlice t 2 #[(0, x), (1, y)]) [hT : SlT P t e c bytes] {v u : Value} (hx : EvR a x v) (hy : EvR a y u) {cs ds : List Value} (hc : v.cells = cs.toArray) (hd : u.cells = ds.toArray) (hl : cs.length = c) (hl2 : ds.length = c) (X : St S w0 w L R) (hL : Under L0 R0 L R) (he : eff.contains i = true) (hw : Region.wanted o (yielded ops a.tmps) = true)
    (h : ∀ g w', St S w0 w' (⟨g, cs ++ ds, e⟩ :: L) R → Under L0 R0 (⟨g, cs ++ ds, e⟩ :: L) R → SQ P ops Q L0 R0 brk eff lds r (a.put o.dst (.slice (some ⟨g, 0, none⟩) 2 2)) w') : SQ P ops Q L0 R0 brk eff lds (i :: r) a w :=
  q_eff hi he hw fun K hk => by
    have hL' : Under L0 R0 ((⟨w.heap.size, cs ++ ds, e⟩ : Ent) :: L) R := ⟨hL.l.cons _, hL.r⟩
    unfold Oper.wp
    rw [exec_build2 ho hx hy hc hd hl hl2]
    exact hk _ _ (fun _ _ => (X.alloc (cs ++ ds) e).keeps hL') (h _ _ (X.alloc (cs ++ ds) e) hL')
/-- append, as above; what is kept (L0) stands among 'pre'. -/
theorem q_appB (pre : List Ent) {s x : Operand} {t : TypeId} (hi : oAt ops i = some o) (ho : o.op = .call { callee := .builtin .append, args := #[s, x], argTypes := #[t, t] }) {α : Type} {f : α → List Value} (l2 : List α) {e : TypeId} {c bytes : Nat} [hT : SlT P t e c bytes] (hF : Flat f c)
    {g n : Nat} {cs : List Value} {te : TypeId} (X : St S w0 w (⟨g, cs, te⟩ :: (pre ++ (M ++ T))) R) {v : Value} {l : List α} (hO : OwnM f e c v l M) (hs : EvR a s v) (hx : EvR a x (.slice (some ⟨g, 0, none⟩) n n)) (hc : l2.flatMap f = cs) (hn : l2.length = n) (hroom : (l.length + n + (l.length + n) / 4 + 192) * bytes ≤ 281474976710656) (h63 : l.length + n ≤ 140737488355328)
    (hL : Under L0 R0 (⟨g, cs, te⟩ :: (pre ++ (M ++ T))) R) (hA : L0.Sublist pre) (he : eff.contains i = true) (hw : Region.wanted o (yielded ops a.tmps) = true)
    (h : ∀ a' cap' w' M', OwnM f e c (.slice a' (l.length + n) cap') (l ++ l2) M' → St S w0 w' (pre ++ (M' ++ T)) R → Under L0 R0 (pre ++ (M' ++ T)) R → SQ P ops Q L0 R0 brk eff lds r (a.put o.dst (.slice a' (l.length + n) cap')) w') : SQ P ops Q L0 R0 brk eff lds (i :: r) a w :=
  q_eff hi he hw fun K hk => by
    obtain ⟨v', w', M', h1, h2, h3⟩ := exec_app (P := P) ho hF X.tail hO hs l2 hx (X.rd0 hc hn (Nat.le_refl _) (by unfold maxLen; omega)) (by rw [hn]; exact hroom) (by rw [hn]; unfold maxLen; omega)
    obtain ⟨a', cap', rfl⟩ := h2.form
    have hl : (l ++ l2).length = l.length + n := by rw [List.length_append, hn]
    rw [hl] at h1 h2
    have hL' : Under L0 R0 (pre ++ (M' ++ T)) R := ⟨hA.trans (List.sublist_append_left _ _), hL.r⟩
    unfold Oper.wp
    rw [h1]
    exact hk _ _ (fun _ _ => h3.keeps hL') (h a' cap' w' M' h2 h3 hL')
theorem q_app (pre : List Ent) {s x : Operand} {t : TypeId} (hi : oAt ops i = some o) (ho : o.op = .call { callee := .builtin .append, args := #[s, x], argTypes := #[t, t] }) {α : Type} {f : α → List Value} (l2 : List α) {e : TypeId} {c bytes : Nat} [hT : SlT P t e c bytes] (hF : Flat f c)
    {g n : Nat} {cs : List Value} {te : TypeId} (X : St S w0 w (⟨g, cs, te⟩ :: (pre ++ (M ++ T))) R) {v : Value} {l : List α} (hO : OwnM f e c v l M) (hs : EvR a s v) (hx : EvR a x (.slice (some ⟨g, 0, none⟩) n n)) (hc : l2.flatMap f = cs) (hn : l2.length = n) (h40 : l.length + n ≤ 1099511627776)
    (hL : Under L0 R0 (⟨g, cs, te⟩ :: (pre ++ (M ++ T))) R) (hA : L0.Sublist pre) (he : eff.contains i = true) (hw : Region.wanted o (yielded ops a.tmps) = true)
    (h : ∀ a' cap' w' M', OwnM f e c (.slice a' (l.length + n) cap') (l ++ l2) M' → St S w0 w' (pre ++ (M' ++ T)) R → Under L0 R0 (pre ++ (M' ++ T)) R → SQ P ops Q L0 R0 brk eff lds r (a.put o.dst (.slice a' (l.length + n) cap')) w') : SQ P ops Q L0 R0 brk eff lds (i :: r) a w :=
  q_appB pre hi ho l2 hF X hO hs hx hc hn (roomB h40 hT.by_).1 (roomB h40 hT.by_).2 hL hA he hw h
end
/-! ### A variable of the package, that is read alone -/
/-- The step 'flush', as its block g holds it. -/
abbrev flR (g : Nat) : Rd := ⟨.slice (some ⟨g, 0, none⟩) 1 1, 1, [.int .i64 2, .int .i64 0, .string ⟨#[]⟩]⟩
section
variable {P : Program} {ops : Array Oper} {Q : Exit → Act → World → Prop} {o : Oper} {rest : List Oper} {a : Act} {S : List Nat} {w0 w : World} {L : List Ent} {R : List Rd}
theorem run_rd0 {T : TypeId} {n : Nat} [hT : AggT P T n] {g cap k : Nat} {cs : List Value} (hs : Sl w (.slice (some ⟨g, 0, none⟩) k cap) k cs) (hn : cs.length = n) : (loadVar T ⟨g, 0, none⟩).run P w = .ok (.agg cs.toArray) w := by
  obtain ⟨⟨d, hu, hd⟩, hz⟩ := hT
  obtain ⟨a, c, hv, _, _, h3⟩ := hs
  refine run_loadVar_mid w g 0 T cs d (fun j v hj => ?_) hu hd (by rw [hz, hn])
  rcases h3 with h3 | ⟨b, off, ha, hc⟩
  · rw [h3] at hj; cases hj
  · cases hv; cases ha
    exact hc j v hj
theorem m_rd0 (hw : Region.wanted o (yielded ops a.tmps) = true) {T : TypeId} {x : Operand} (ho : o.op = .load T x) {g : Nat} (hx : a.eval x = .pointer (some ⟨g, 0, none⟩)) {n : Nat} [hT : AggT P T n] (X : St S w0 w L R)
    {cap k : Nat} {cs : List Value} (hR : ⟨.slice (some ⟨g, 0, none⟩) k cap, k, cs⟩ ∈ R) (hn : cs.length = n) (h : wpList P ops Q rest (a.put o.dst (.agg cs.toArray)) w) : wpList P ops Q (o :: rest) a w :=
  BigFrame.wpList_want hw fun K hK => by
    unfold Oper.wp execOp
    simp only [ho, hx, Instr.loadAt, Instr.sureAddr, Sem.run_bind, Sem.run_pure, Result.andThen_ok, run_rd0 (T := T) (X.rd _ hR).1 hn]
    exact hK _ _ h
end
section
variable {P : Program} {ops : Array Oper} {Q : Exit → Act → World → Prop} {L0 : List Ent} {R0 : List Rd} {brk eff lds : List Nat} {i : Nat} {r : List Nat} {o : Oper} {a : Act} {S : List Nat} {w0 w : World} {L M T : List Ent} {R : List Rd}
theorem q_rd0 {x : Operand} {T : TypeId} {g n : Nat} (hi : oAt ops i = some o) (ho : o.op = .load T x) (hx : a.eval x = .pointer (some ⟨g, 0, none⟩)) [hT : AggT P T n] {cap k : Nat} {cs : List Value} (hR : ⟨.slice (some ⟨g, 0, none⟩) k cap, k, cs⟩ ∈ R0) (hn : cs.length = n)
    (he : (!eff.contains i && lds.contains i) = true) (hw : Region.wanted o (yielded ops a.tmps) = true) (X : St S w0 w L R) (hL : Under L0 R0 L R) (hQ : NoLook Q)
    (h : SQ P ops Q L0 R0 brk eff lds r (a.put o.dst (.agg cs.toArray)) w) : SQ P ops Q L0 R0 brk eff lds (i :: r) a w :=
  q_read hi he hw X hL hQ (fun w' hw' => by
    unfold execOp
    simp only [ho, hx, Instr.loadAt, Instr.sureAddr, Sem.run_bind, Sem.run_pure, Result.andThen_ok, run_rd0 (T := T) (hw'.r _ hR) hn]) h
/-- A cell of what is read from the beginning of a block. -/
theorem q_cell0 {x : Operand} {T : TypeId} {b j : Nat} (hi : oAt ops i = some o) (ho : o.op = .load T x) (hx : EvR a x (.pointer (some ⟨b, j, none⟩))) [OneT P T] {cap k k' : Nat} {cs : List Value} (hR : ⟨.slice (some ⟨b, 0, none⟩) k' cap, k, cs⟩ ∈ R0) {v : Value} (hv : cs[j]? = some v)
    (he : (!eff.contains i && lds.contains i) = true) (hw : Region.wanted o (yielded ops a.tmps) = true) (X : St S w0 w L R) (hL : Under L0 R0 L R) (hQ : NoLook Q)
    (h : SQ P ops Q L0 R0 brk eff lds r (a.put o.dst v) w) : SQ P ops Q L0 R0 brk eff lds (i :: r) a w :=
  q_read hi he hw X hL hQ (fun w' hw' => by
    have hc : w'.cell? ⟨b, j, none⟩ = some v := by
      obtain ⟨ad, c, hv2, _, _, h3⟩ := hw'.r _ hR
      rcases h3 with h3 | ⟨b2, off, ha, hc⟩
      · have h3' : cs = [] := h3
        rw [h3'] at hv; cases hv
      · simp only [Value.slice.injEq] at hv2
        obtain ⟨rfl, _, _⟩ := hv2
        cases ha
        have := hc j v hv
        rwa [Nat.zero_add] at this
    unfold execOp
    simp only [ho, hx.eval, Instr.loadAt, Instr.sureAddr, Sem.run_bind, Sem.run_pure, Result.andThen_ok, run_loadOne (T := T) hc]) h
end
end Wb
