/- A region that draws its order, walked in one order: reads of known blocks may come at any time, what writes comes when all that it would turn has been read. No program in sight. Where the fields of structs lie. -/
import Derived.Test.YtjhmfljlclajnabKTxnBegins6
import Derived.OrdersHeld
namespace Wb
open Go Go.RowKit
set_option linter.unusedVariables false
set_option linter.unusedSimpArgs false
section
variable {P : Program} {ops : Array Oper} {Q : Exit → Act → World → Prop} {md : Region.Mode} {S : World → Prop} {brk : List Nat}

/-- Does operation b wait for operation i by itself? -/
def waitB (md : Region.Mode) (ops : Array Oper) (b i : Nat) : Bool := ((ops[b]?).map fun o => o.after.any fun e => Region.binds md e && e.on == i).getD true
/-- Whatever order comes from here on; every operation but those of 'brk' leaves S as it is. -/
def AnyS (P : Program) (md : Region.Mode) (ops : Array Oper) (Q : Exit → Act → World → Prop) (S : World → Prop) (brk : List Nat) : Nat → Array Bool → Act → World → Prop
  | 0, x, a, w => Region.ready md ops x = [] ∧ Q .normal a w
  | n + 1, x, a, w => (Region.ready md ops x = [] → Q .normal a w) ∧
      ∀ i ∈ Region.ready md ops x, wpOp P ops Q i (fun b v => (brk.contains i = false → S w → S v) ∧ AnyS P md ops Q S brk n (x.setIfInBounds i true) b v) a w
theorem AnyS.any : ∀ (n : Nat) (x : Array Bool) (a : Act) (w : World), AnyS P md ops Q S brk n x a w → wpAny P md ops Q n x a w
  | 0, _, _, _, h => h
  | n + 1, x, a, w, h => ⟨h.1, fun i hi => wpOp_mono (fun b v hh => AnyS.any n _ b v hh.2) (h.2 i hi)⟩
theorem waitB_spec {b i : Nat} {o : Oper} (ho : ops[b]? = some o) (h : waitB md ops b i = true) : ∃ e ∈ o.after, Region.binds md e = true ∧ e.on = i := by
  unfold waitB at h
  rw [ho] at h
  obtain ⟨e, he, hb⟩ := Array.any_eq_true'.1 h
  rw [Bool.and_eq_true, beq_iff_eq] at hb
  exact ⟨e, he, hb.1, hb.2⟩
/-- What is told of an operation that reads: all that it shares with those that may still come. -/
def Loose (md : Region.Mode) (ops : Array Oper) (x : Array Bool) (i : Nat) (o : Oper) : Prop :=
  ∀ j oj, ops[j]? = some oj → j ≠ i → x.getD j true = false → (∀ e ∈ oj.after, Region.binds md e = true → e.on ≠ i) → o.apart ops oj = true
theorem Loose.set {x : Array Bool} {i j : Nat} {o : Oper} (h : Loose md ops x i o) (hj : x.getD j true = false) : Loose md ops (x.setIfInBounds j true) i o := fun k ok hk hne hun hno => by
  by_cases e : j = k
  · subst e; exact h _ ok hk hne hj hno
  · exact h k ok hk hne (by rw [getD_set_ne true e] at hun; exact hun) hno
/-- An operation that reads may be taken first: where S holds, if all that may end S waits for it; or anywhere. -/
theorem AnyS.take {T : World → Prop} {i : Nat} {o : Oper} {v : Value} (hi : ops[i]? = some o) (hsel : ∀ (j : Nat) (o : Oper) cs b, ops[j]? = some o → o.op ≠ .select cs b)
    (hQ : ∀ c a w, Q (.panic c) (a.put o.dst v) w → Q (.panic c) a w) (hT : (T = S ∧ brk.all (fun b => waitB md ops b i) = true) ∨ ∀ w, T w) :
    ∀ (n : Nat) (x : Array Bool) (a : Act) (w : World), Loose md ops x i o → i ∈ Region.ready md ops x → YieldsIf P ops T o v a → T w →
      AnyS P md ops Q S brk n (x.setIfInBounds i true) (a.put o.dst v) w → AnyS P md ops Q S brk (n + 1) x a w
  | n, x, a, w, hl, hr, hy, hS, H => by
    have hne : Region.ready md ops x ≠ [] := fun e => by rw [e] at hr; cases hr
    refine ⟨fun e => absurd e hne, fun j hj => ?_⟩
    by_cases e : j = i
    · subst e
      exact hy.wpOp hi hS ⟨fun _ h => h, H⟩
    · have hj2 := ready_mono hj e
      obtain ⟨hju, oj, hoj, hall⟩ := mem_ready.1 hj
      have hiu := (mem_ready.1 hr).1
      have hnot : ∀ d ∈ oj.after, Region.binds md d = true → d.on ≠ i := fun d hd hb he => by
        have h1 := hall d hd hb
        rw [he] at h1
        rcases Nat.lt_or_ge i x.size with h3 | h3
        · simp [h3] at hiu h1; rw [hiu] at h1; cases h1
        · simp [Array.getElem?_eq_none h3] at h1
      have next : ∀ u, (brk.contains j = false → S w → S u) → T u := fun u hu => by
        rcases hT with ⟨rfl, hbrk⟩ | hT
        · refine hu ?_ hS
          cases hb : brk.contains j with
          | false => rfl
          | true =>
            have h1 := List.all_eq_true.1 hbrk j (by simpa using hb)
            obtain ⟨d, hd, hb1, hb2⟩ := waitB_spec hoj h1
            exact absurd hb2 (hnot d hd hb1)
        · exact hT u
      cases n with
      | zero => rw [H.1] at hj2; cases hj2
      | succ n =>
        have h1 := H.2 j hj2
        have h2 := wpOp_putIf hoj (hl j oj hoj e hju hnot) (fun cs b => hsel i o cs b hi) (fun cs b => hsel j oj cs b hoj) hQ hy h1
        refine wpOp_mono (fun b u hh => ?_) h2
        obtain ⟨hy2, hS2, H2⟩ := hh
        refine ⟨hS2, AnyS.take hi hsel hQ hT n _ b u (hl.set hju) (ready_mono hr (Ne.symm e)) hy2 (next u hS2) ?_⟩
        rw [Array.setIfInBounds_comm _ _ e]
        exact H2

/-! ### One order -/
/-- The operations, in one order: those of 'eff' do something, those of 'lds' read what S tells, the others yield in whatever world. -/
def Seq (P : Program) (ops : Array Oper) (Q : Exit → Act → World → Prop) (S : World → Prop) (brk eff lds : List Nat) : List Nat → Act → World → Prop
  | [], a, w => Q .normal a w
  | i :: r, a, w => if eff.contains i = true then wpOp P ops Q i (fun b v => (brk.contains i = false → S w → S v) ∧ Seq P ops Q S brk eff lds r b v) a w
      else if lds.contains i = true then ∃ o v, ops[i]? = some o ∧ YieldsIf P ops S o v a ∧ S w ∧ (∀ c a w, Q (.panic c) (a.put o.dst v) w → Q (.panic c) a w) ∧ Seq P ops Q S brk eff lds r (a.put o.dst v) w
      else ∃ o v, ops[i]? = some o ∧ YieldsIf P ops (fun _ => True) o v a ∧ (∀ c a w, Q (.panic c) (a.put o.dst v) w → Q (.panic c) a w) ∧ Seq P ops Q S brk eff lds r (a.put o.dst v) w
/-- Is it an order that stands for all? -/
def ordOk (md : Region.Mode) (ops : Array Oper) (brk eff lds : List Nat) : Array Bool → List Nat → Bool
  | x, [] => (Region.ready md ops x).isEmpty
  | x, i :: r => (if eff.contains i = true then Region.ready md ops x == [i] else (Region.ready md ops x).contains i && Region.free md ops x i && (!lds.contains i || brk.all (fun b => waitB md ops b i))) && ordOk md ops brk eff lds (x.setIfInBounds i true) r
theorem Seq.anyS {eff lds : List Nat} (hs : Region.noSelect ops = true) : ∀ (r : List Nat) (x : Array Bool) (a : Act) (w : World), ordOk md ops brk eff lds x r = true → Seq P ops Q S brk eff lds r a w → AnyS P md ops Q S brk r.length x a w
  | [], x, a, w, hk, h => ⟨List.isEmpty_iff.1 hk, h⟩
  | i :: r, x, a, w, hk, h => by
    unfold ordOk at hk
    rw [Bool.and_eq_true] at hk
    obtain ⟨h1, h2⟩ := hk
    unfold Seq at h
    split at h
    · rename_i he
      rw [if_pos he] at h1
      have hr : Region.ready md ops x = [i] := by simpa using h1
      refine ⟨fun e => (by rw [hr] at e; cases e), fun j hj => ?_⟩
      rw [hr] at hj
      obtain rfl : j = i := by simpa using hj
      exact wpOp_mono (fun b v hh => ⟨hh.1, Seq.anyS hs r _ b v h2 hh.2⟩) h
    · rename_i he
      rw [if_neg he, Bool.and_eq_true, Bool.and_eq_true] at h1
      obtain ⟨⟨h3, h4⟩, h5⟩ := h1
      split at h
      · rename_i hl
        rw [hl, Bool.not_true, Bool.false_or] at h5
        obtain ⟨o, v, hi, hy, hS, hQ, hn⟩ := h
        exact AnyS.take hi (Region.noSelect_spec hs) hQ (.inl ⟨rfl, h5⟩) r.length x a w (fun j oj hj hne hun hno => Region.free_spec hi h4 j oj hj hne hun hno) (by simpa using h3) hy hS (Seq.anyS hs r _ _ _ h2 hn)
      · obtain ⟨o, v, hi, hy, hQ, hn⟩ := h
        exact AnyS.take hi (Region.noSelect_spec hs) hQ (.inr fun _ => trivial) r.length x a w (fun j oj hj hne hun hno => Region.free_spec hi h4 j oj hj hne hun hno) (by simpa using h3) hy trivial (Seq.anyS hs r _ _ _ h2 hn)
/-- THE BEGINNING. -/
theorem wp_seq {id : Nat} {a : Act} {w : World} (L : List Ent) (brk eff lds perm : List Nat) (hm : P.follows .mixedOrders = true) (hs : (Region.noSelect ops && (perm.length == ops.size && ordOk .any ops brk eff lds (Array.replicate ops.size false) perm)) = true)
    (h : Seq P ops Q (fun w' => ∀ e ∈ L, Blk w' e.g e.cs.toArray e.t) brk eff lds perm a w.drew) : (Code.region id ops true).wp P Q a w := by
  rw [Bool.and_eq_true, Bool.and_eq_true] at hs
  obtain ⟨h1, h2, h3⟩ := hs
  have := Seq.anyS h1 perm _ a _ h3 h
  rw [show perm.length = ops.size by simpa using h2] at this
  exact wp_region_any hm (AnyS.any _ _ _ _ this)
end

/-! ### The steps -/
def nthO : List Oper → Nat → Option Oper
  | [], _ => none
  | o :: _, 0 => some o
  | _ :: r, n + 1 => nthO r n
theorem nthO_get : ∀ (l : List Oper) (i : Nat), nthO l i = l[i]?
  | [], i => by simp [nthO]
  | v :: r, 0 => rfl
  | v :: r, i + 1 => by rw [List.getElem?_cons_succ]; exact nthO_get r i
def oAt (ops : Array Oper) (i : Nat) : Option Oper := nthO ops.toList i
theorem oAt_get {ops : Array Oper} {i : Nat} {o : Oper} (h : oAt ops i = some o) : ops[i]? = some o := by
  unfold oAt at h
  rw [nthO_get] at h
  simpa using h
section
variable {P : Program} {ops : Array Oper} {Q : Exit → Act → World → Prop} {L0 : List Ent} {brk eff lds : List Nat} {i : Nat} {r : List Nat} {o : Oper} {a : Act} {S : List Nat} {w0 w : World} {L : List Ent} {R : List Rd}
def Kept (L0 : List Ent) (w : World) : Prop := ∀ e ∈ L0, Blk w e.g e.cs.toArray e.t
abbrev SQ (P : Program) (ops : Array Oper) (Q : Exit → Act → World → Prop) (L0 : List Ent) (brk eff lds : List Nat) : List Nat → Act → World → Prop := Seq P ops Q (Kept L0) brk eff lds
def NoLook (Q : Exit → Act → World → Prop) : Prop := ∀ c a (k : Tmp) v w, Q (.panic c) (a.put (some k) v) w → Q (.panic c) a w
theorem NoLook.all (h : NoLook Q) : ∀ c a d v w, Q (.panic c) (a.put d v) w → Q (.panic c) a w := fun c a d v w hh => by
  cases d with
  | none => exact hh
  | some k => exact h c a k v w hh
theorem q_start {id : Nat} (k : Nat) (brk eff lds perm : List Nat) (X : St S w0 w L R) (hm : P.follows .mixedOrders = true) (hs : (Region.noSelect ops && (perm.length == ops.size && ordOk .any ops brk eff lds (Array.replicate ops.size false) perm)) = true) (hQ : NoLook Q)
    (h : NoLook Q → St S w0 w.drew L R → (L.take k).Sublist L → SQ P ops Q (L.take k) brk eff lds perm a w.drew) : (Code.region id ops true).wp P Q a w := wp_seq (L.take k) brk eff lds perm hm hs (h hQ X.drew (List.take_sublist _ _))
theorem q_nil (h : Q .normal a w) : SQ P ops Q L0 brk eff lds [] a w := h
theorem St.keeps (X : St S w0 w L R) (hL : L0.Sublist L) : Kept L0 w := fun e he => X.blk e (hL.subset he)
/-- An operation that does something. -/
theorem q_eff (hi : oAt ops i = some o) (he : eff.contains i = true) (hw : Region.wanted o (yielded ops a.tmps) = true)
    (h : ∀ K : Act → World → Prop, (∀ b v, (brk.contains i = false → Kept L0 w → Kept L0 v) → SQ P ops Q L0 brk eff lds r b v → K b v) → o.wp P a w K Q) : SQ P ops Q L0 brk eff lds (i :: r) a w := by
  unfold SQ Seq
  rw [if_pos he]
  unfold wpOp
  rw [oAt_get hi]
  simp only [hw, if_true]
  exact .inl (h _ fun b v h1 h2 => ⟨h1, h2⟩)
/-- One that reads what is known. -/
theorem q_read {v : Value} (hi : oAt ops i = some o) (he : (!eff.contains i && lds.contains i) = true) (hw : Region.wanted o (yielded ops a.tmps) = true) (X : St S w0 w L R) (hL : L0.Sublist L) (hQ : NoLook Q)
    (hv : ∀ w', Kept L0 w' → (execOp a.eval o).run P w' = .ok (.value v) w') (h : SQ P ops Q L0 brk eff lds r (a.put o.dst v) w) : SQ P ops Q L0 brk eff lds (i :: r) a w := by
  rw [Bool.and_eq_true, Bool.not_eq_true'] at he
  unfold SQ Seq
  rw [if_neg (by rw [he.1]; decide), if_pos he.2]
  exact ⟨o, v, oAt_get hi, .inl ⟨hw, hv⟩, X.keeps hL, fun c a w hh => hQ.all c a o.dst v w hh, h⟩
/-- One whose guard says no. -/
theorem q_skip (hi : oAt ops i = some o) (he : (!eff.contains i && !lds.contains i) = true) (hw : Region.wanted o (yielded ops a.tmps) = false) (hQ : NoLook Q)
    (h : SQ P ops Q L0 brk eff lds r (a.put o.dst undef) w) : SQ P ops Q L0 brk eff lds (i :: r) a w := by
  rw [Bool.and_eq_true, Bool.not_eq_true', Bool.not_eq_true'] at he
  unfold SQ Seq
  rw [if_neg (by rw [he.1]; decide), if_neg (by rw [he.2]; decide)]
  exact ⟨o, undef, oAt_get hi, .inr ⟨hw, rfl⟩, fun c a w hh => hQ.all c a o.dst undef w hh, h⟩
/-- One that yields in whatever world. -/
theorem q_pure {v : Value} (hi : oAt ops i = some o) (he : (!eff.contains i && !lds.contains i) = true) (hw : Region.wanted o (yielded ops a.tmps) = true) (hQ : NoLook Q)
    (hv : ∀ w', (execOp a.eval o).run P w' = .ok (.value v) w') (h : SQ P ops Q L0 brk eff lds r (a.put o.dst v) w) : SQ P ops Q L0 brk eff lds (i :: r) a w := by
  rw [Bool.and_eq_true, Bool.not_eq_true', Bool.not_eq_true'] at he
  unfold SQ Seq
  rw [if_neg (by rw [he.1]; decide), if_neg (by rw [he.2]; decide)]
  exact ⟨o, v, oAt_get hi, .inl ⟨hw, fun w' _ => hv w'⟩, fun c a w hh => hQ.all c a o.dst v w hh, h⟩
theorem q_move {x : Operand} {v : Value} (hi : oAt ops i = some o) (ho : o.op = .move x) (hx : EvR a x v) (he : (!eff.contains i && !lds.contains i) = true) (hw : Region.wanted o (yielded ops a.tmps) = true) (hQ : NoLook Q)
    (h : SQ P ops Q L0 brk eff lds r (a.put o.dst v) w) : SQ P ops Q L0 brk eff lds (i :: r) a w :=
  q_pure hi he hw hQ (fun w' => by unfold execOp; simp only [ho, hx.eval]; rfl) h
theorem q_assign {x : Operand} {v : Value} (hi : oAt ops i = some o) (ho : o.op = .assign x) (hx : EvR a x v) (he : (!eff.contains i && !lds.contains i) = true) (hw : Region.wanted o (yielded ops a.tmps) = true) (hQ : NoLook Q)
    (h : SQ P ops Q L0 brk eff lds r (a.put o.dst v) w) : SQ P ops Q L0 brk eff lds (i :: r) a w :=
  q_pure hi he hw hQ (fun w' => by unfold execOp; simp only [ho, hx.eval]; rfl) h
theorem q_nilCheck {x : Operand} {p : Addr} (hi : oAt ops i = some o) (ho : o.op = .nilCheck x) (hx : EvR a x (.pointer (some p))) (he : (!eff.contains i && !lds.contains i) = true) (hw : Region.wanted o (yielded ops a.tmps) = true) (hQ : NoLook Q)
    (h : SQ P ops Q L0 brk eff lds r (a.put o.dst (.pointer (some p))) w) : SQ P ops Q L0 brk eff lds (i :: r) a w :=
  q_pure hi he hw hQ (fun w' => by unfold execOp; simp only [ho, hx.eval]; rfl) h
theorem q_extract {x : Operand} {k : Nat} {vs : List Value} {v : Value} (hi : oAt ops i = some o) (ho : o.op = .extract x k) (hx : EvR a x (.tuple vs.toArray)) (hv : nth vs k = some v) (he : (!eff.contains i && !lds.contains i) = true) (hw : Region.wanted o (yielded ops a.tmps) = true) (hQ : NoLook Q)
    (h : SQ P ops Q L0 brk eff lds r (a.put o.dst v) w) : SQ P ops Q L0 brk eff lds (i :: r) a w :=
  q_pure hi he hw hQ (fun w' => by
    rw [nth_get] at hv
    unfold execOp; simp only [ho, hx.eval, Instr.extract]; simp [hv]) h
/-- Where a field lies. -/
class FieldT (P : Program) (T : TypeId) (k : Nat) (d : outParam Nat) : Prop where
  at_ : ∀ (g i : Nat) (w : World), (Instr.fieldAt T (.pointer (some ⟨g, i, none⟩)) k).run P w = .ok (.pointer (some ⟨g, i + d, none⟩)) w
theorem q_field {x : Operand} {T : TypeId} {k d g n : Nat} (hi : oAt ops i = some o) (ho : o.op = .fieldAddr T x k) (hx : EvR a x (.pointer (some ⟨g, n, none⟩))) [hF : FieldT P T k d] (he : (!eff.contains i && !lds.contains i) = true) (hw : Region.wanted o (yielded ops a.tmps) = true) (hQ : NoLook Q)
    (h : SQ P ops Q L0 brk eff lds r (a.put o.dst (.pointer (some ⟨g, n + d, none⟩))) w) : SQ P ops Q L0 brk eff lds (i :: r) a w :=
  q_pure hi he hw hQ (fun w' => by unfold execOp; simp only [ho, hx.eval, Sem.run_bind, hF.at_, Result.andThen_ok, Sem.run_pure]) h
theorem q_load1 {x : Operand} {T : TypeId} {g n : Nat} (hi : oAt ops i = some o) (ho : o.op = .load T x) (hx : EvR a x (.pointer (some ⟨g, n, none⟩))) [OneT P T] {cs : List Value} {t : TypeId} (hm : ⟨g, cs, t⟩ ∈ L0) {v : Value} (hv : nth cs n = some v)
    (he : (!eff.contains i && lds.contains i) = true) (hw : Region.wanted o (yielded ops a.tmps) = true) (X : St S w0 w L R) (hL : L0.Sublist L) (hQ : NoLook Q)
    (h : SQ P ops Q L0 brk eff lds r (a.put o.dst v) w) : SQ P ops Q L0 brk eff lds (i :: r) a w :=
  q_read hi he hw X hL hQ (fun w' hw' => by
    have hc : w'.cell? ⟨g, n, none⟩ = some v := by rw [(hw' _ hm).cell n, ← hv, nth_get]; simp
    unfold execOp
    simp only [ho, hx.eval, Instr.loadAt, Instr.sureAddr, Sem.run_bind, Sem.run_pure, Result.andThen_ok, run_loadOne (T := T) hc]) h
theorem q_loadN {x : Operand} {T : TypeId} {g n m : Nat} (hi : oAt ops i = some o) (ho : o.op = .load T x) (hx : EvR a x (.pointer (some ⟨g, n, none⟩))) [hT : AggT P T m] {cs : List Value} {t : TypeId} (hm : ⟨g, cs, t⟩ ∈ L0) (hn : n + m ≤ cs.length)
    (he : (!eff.contains i && lds.contains i) = true) (hw : Region.wanted o (yielded ops a.tmps) = true) (X : St S w0 w L R) (hL : L0.Sublist L) (hQ : NoLook Q)
    (h : SQ P ops Q L0 brk eff lds r (a.put o.dst (.agg ((cs.drop n).take m).toArray)) w) : SQ P ops Q L0 brk eff lds (i :: r) a w :=
  q_read hi he hw X hL hQ (fun w' hw' => by
    obtain ⟨⟨d, hu, hd⟩, hs⟩ := hT
    have hr : (loadVar T ⟨g, n, none⟩).run P w' = .ok (.agg ((cs.drop n).take m).toArray) w' := run_loadVar_mid w' g n T ((cs.drop n).take m) d (fun j v hj => by
      rw [(hw' _ hm).cell]
      rw [List.getElem?_take] at hj
      split at hj
      · rw [List.getElem?_drop] at hj; simpa using hj
      · cases hj) hu hd (by rw [hs, List.length_take, List.length_drop]; congr 1; omega)
    unfold execOp
    simp only [ho, hx.eval, Instr.loadAt, Instr.sureAddr, Sem.run_bind, Sem.run_pure, Result.andThen_ok, hr]) h
/-- A call of a Go function. -/
theorem q_call (f : FuncId) (xs : List Operand) (ts : Array TypeId) (hi : oAt ops i = some o) (ho : o.op = .call { callee := .value (.func f), args := xs.toArray, argTypes := ts }) (args : Array Value) (ha : (xs.map a.eval).toArray = args)
    (hb : ∃ fn c, P.funcs[f]? = some fn ∧ (fn.name == "runtime.NumGoroutine") = false ∧ fn.body = some c) (he : eff.contains i = true) (hw : Region.wanted o (yielded ops a.tmps) = true) {F : Ending → World → Prop}
    (h : Calls P f args w F) (hK : ∀ e w', F e w' → ∃ v, e = .returned v ∧ (brk.contains i = false → Kept L0 w → Kept L0 w') ∧ SQ P ops Q L0 brk eff lds r (a.put o.dst v) w') : SQ P ops Q L0 brk eff lds (i :: r) a w :=
  q_eff hi he hw fun K hk => by
    subst ha
    obtain ⟨fn, c, h1, h2, h3⟩ := hb
    have hr : (execOp a.eval o).run P w = .ok (.enter f (xs.map a.eval).toArray) w := by
      unfold execOp
      simp [ho, resolve, invoke, Deferred.ofValue, Act.eval, run_enter h1 h2 h3]
    unfold Oper.wp
    rw [hr, Oper.upon_enter]
    exact h.mono fun e w' hF => by obtain ⟨v, rfl, hs, hq⟩ := hK e w' hF; exact hk _ _ hs hq
theorem q_store1 (A B : List Ent) {x y : Operand} {T : TypeId} {g n : Nat} {cs : List Value} {t : TypeId} (hi : oAt ops i = some o) (ho : o.op = .store T x y) (hx : EvR a x (.pointer (some ⟨g, n, none⟩))) [OneT P T] {v : Value} (hy : EvR a y v)
    (X : St S w0 w (A ++ ⟨g, cs, t⟩ :: B) R) (hn : n < cs.length) (h1 : v.oneCell' = true) (hc : v.cells = #[v]) (he : eff.contains i = true) (hw : Region.wanted o (yielded ops a.tmps) = true)
    (h : ∀ w', St S w0 w' (A ++ ⟨g, upd n [v] cs, t⟩ :: B) R → (brk.contains i = false → Kept L0 w → Kept L0 w') ∧ SQ P ops Q L0 brk eff lds r (a.put o.dst undef) w') : SQ P ops Q L0 brk eff lds (i :: r) a w :=
  q_eff hi he hw fun K hk => by
    have ht := X.there (g := g) (cs := cs) (t := t) (i := n) (n := 1) (by simp) (by omega)
    obtain ⟨h2, h3⟩ := h _ (by simpa using X.wrote A B n [v] (show n + 1 ≤ cs.length from hn))
    unfold Oper.wp execOp
    simp only [ho, hx.eval, hy.eval, Instr.storeAt, Instr.sureAddr, Sem.run_bind, Sem.run_pure, Result.andThen_ok, run_storeOne (T := T) ht h1 hc]
    exact hk _ _ h2 h3
theorem q_storeN (A B : List Ent) {x y : Operand} {T : TypeId} {g n m : Nat} {cs : List Value} {t : TypeId} (hi : oAt ops i = some o) (ho : o.op = .store T x y) (hx : EvR a x (.pointer (some ⟨g, n, none⟩))) [hT : AggT P T m] {vs : List Value} (hy : a.eval y = .agg vs.toArray)
    (X : St S w0 w (A ++ ⟨g, cs, t⟩ :: B) R) (hm : vs.length = m) (hn : n + vs.length ≤ cs.length) (h1 : vs.all (·.oneCell') = true) (he : eff.contains i = true) (hw : Region.wanted o (yielded ops a.tmps) = true)
    (h : ∀ w', St S w0 w' (A ++ ⟨g, upd n vs cs, t⟩ :: B) R → (brk.contains i = false → Kept L0 w → Kept L0 w') ∧ SQ P ops Q L0 brk eff lds r (a.put o.dst undef) w') : SQ P ops Q L0 brk eff lds (i :: r) a w :=
  q_eff hi he hw fun K hk => by
    obtain ⟨h2, h3⟩ := h _ (by simpa using X.wrote A B n vs hn)
    exact wp_store_mid T x y ho g n vs.toArray hx.eval hy (X.there (cs := cs) (t := t) (by simp) (by simpa using hn)) (by rw [hT.size]; simp [hm]) (by simpa using h1) (hk _ _ (by simpa using h2) (by simpa using h3))
/-- A new block of noughts. -/
theorem q_alloc {T : TypeId} (hi : oAt ops i = some o) (ho : o.op = .alloc T) {cs : List Value} [hT : ZeroT P T cs] (X : St S w0 w L R) (hL : L0.Sublist L) (he : eff.contains i = true) (hw : Region.wanted o (yielded ops a.tmps) = true)
    (h : ∀ g w', St S w0 w' (⟨g, cs, T⟩ :: L) R → L0.Sublist (⟨g, cs, T⟩ :: L) → SQ P ops Q L0 brk eff lds r (a.put o.dst (.pointer (some ⟨g, 0, none⟩))) w') : SQ P ops Q L0 brk eff lds (i :: r) a w :=
  q_eff hi he hw fun K hk => by
    have hz := hT.zero
    cases hq : P.info? T with
    | none => simp [hq] at hz
    | some x =>
      cases hs : x.zero with
      | none => simp [hq, hs] at hz
      | some z =>
        have hc : z.cells = cs.toArray := by simpa [hq, hs] using hz
        have hL' : L0.Sublist ((⟨w.heap.size, cs, T⟩ : Ent) :: L) := hL.cons _
        unfold Oper.wp execOp
        simp only [ho, Instr.alloc, zeroValue, typeInfo, newVar, newRow, newObj, Sem.run_bind, Sem.run_pure, Result.andThen_ok]
        simp [hq, hs, hc]
        exact hk _ _ (fun _ _ => (X.alloc cs T).keeps hL') (h _ _ (X.alloc cs T) hL')
end
end Wb

namespace Go.Proofs.Ytjhmfljlclajnab
open Go.RowKit Wb
instance : FieldT Try.prog 64 0 0 := ⟨fun _ _ _ => by kernel_rfl⟩
instance : FieldT Try.prog 64 1 1 := ⟨fun _ _ _ => by kernel_rfl⟩
instance : FieldT Try.prog 64 2 2 := ⟨fun _ _ _ => by kernel_rfl⟩
instance : FieldT Try.prog 64 3 3 := ⟨fun _ _ _ => by kernel_rfl⟩
instance : FieldT Try.prog 64 4 4 := ⟨fun _ _ _ => by kernel_rfl⟩
instance : FieldT Try.prog 61 0 0 := ⟨fun _ _ _ => by kernel_rfl⟩
instance : FieldT Try.prog 61 1 1 := ⟨fun _ _ _ => by kernel_rfl⟩
instance : FieldT Try.prog 93 0 0 := ⟨fun _ _ _ => by kernel_rfl⟩
instance : FieldT Try.prog 93 1 1 := ⟨fun _ _ _ => by kernel_rfl⟩
instance : FieldT Try.prog 51 0 0 := ⟨fun _ _ _ => by kernel_rfl⟩
instance : FieldT Try.prog 51 1 1 := ⟨fun _ _ _ => by kernel_rfl⟩
instance : FieldT Try.prog 51 2 2 := ⟨fun _ _ _ => by kernel_rfl⟩
instance : FieldT Try.prog 25 0 0 := ⟨fun _ _ _ => by kernel_rfl⟩
instance : FieldT Try.prog 25 1 1 := ⟨fun _ _ _ => by kernel_rfl⟩
instance : FieldT Try.prog 48 0 0 := ⟨fun _ _ _ => by kernel_rfl⟩
instance : FieldT Try.prog 48 1 1 := ⟨fun _ _ _ => by kernel_rfl⟩
end Go.Proofs.Ytjhmfljlclajnab
