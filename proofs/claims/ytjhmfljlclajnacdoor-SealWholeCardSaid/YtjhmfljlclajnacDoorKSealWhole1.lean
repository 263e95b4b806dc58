/- Parts of the proof: SeqT MemC Want Ty Own Bld. -/
import Derived.Test.YtjhmfljlclajnacDoorKSealWhole0
import Derived.Test.YtjhmfljlclajnacDoorChecked
import Derived.Deep.DeepAppendWide
set_option linter.unusedVariables false
set_option linter.unusedSimpArgs false
namespace Wb
open Go Go.RowKit
section
variable {P : Program} {ops : Array Oper} {Q : Exit → Act → World → Prop} {md : Region.Mode} {S : World → Prop} {brk eff lds : List Nat}
def endE (Q : Exit → Act → World → Prop) (E : Act → World → Prop) : Exit → Act → World → Prop
 | .normal => E
 | e => Q e
theorem wpOp_congQ {Q' : Exit → Act → World → Prop} {i : Nat} {K : Act → World → Prop} {a : Act} {w : World} (hp : ∀ c, Q (.panic c) = Q' (.panic c)) (ho : Q .outgrown = Q' .outgrown) (h : wpOp P ops Q i K a w) : wpOp P ops Q' i K a w := by
 have hl : LetsOut Q = LetsOut Q' := by unfold LetsOut; rw [ho]
 unfold wpOp at *
 split
 ·simpa [*] using h
 ·rename_i o hoi
  simp only [hoi] at h
  split
  ·rename_i hw
   simp only [hw, if_true] at h
   refine h.imp (fun h => ?_) (fun h => ⟨h.1, hl ▸ h.2⟩)
   unfold Oper.wp at *
   generalize (execOp a.eval o).run P w = r at *
   cases r with
   | ok n w' =>
    cases n <;> simp only [Oper.upon] at h ⊢ <;> first | exact h | exact Calls.mono h (fun e w'' he => by cases e <;> first | exact he | (simp only [← hp]; exact he) | (simp only [← hl]; exact he))
   | halt x w' => cases x <;> simp only [Oper.upon] at h ⊢ <;> first | exact h | (rw [← hp]; exact h)
  ·rename_i hw; simp only [hw] at h; exact h
def marks (x : Array Bool) : List Nat → Array Bool
 | [] => x
 | i :: r => marks (x.setIfInBounds i true) r
def begOk (md : Region.Mode) (ops : Array Oper) (brk eff lds : List Nat) : Array Bool → List Nat → Bool
 | _, [] => true
 | x, i :: r => (if eff.contains i = true then Region.ready md ops x == [i] else (Region.ready md ops x).contains i && Region.free md ops x i && (!lds.contains i || brk.all (fun b => waitB md ops b i))) && begOk md ops brk eff lds (x.setIfInBounds i true) r
theorem Seq.anyE {E : Act → World → Prop} (hs : Region.noSelect ops = true) (n : Nat) : ∀ (r : List Nat) (x : Array Bool) (a : Act) (w : World), begOk md ops brk eff lds x r = true → Seq P ops (endE Q E) S brk eff lds r a w → (∀ b v, E b v → AnyS P md ops Q S brk n (marks x r) b v) → AnyS P md ops Q S brk (r.length + n) x a w
 | [], x, a, w, _, h, hE => by rw [List.length_nil, Nat.zero_add]; exact hE a w h
 | i :: r, x, a, w, hk, h, hE => by
  unfold begOk at hk
  rw [Bool.and_eq_true] at hk
  obtain ⟨h1, h2⟩ := hk
  unfold Seq at h
  rw [List.length_cons, Nat.add_right_comm]
  split at h
  ·rename_i he
   rw [if_pos he] at h1
   have hr : Region.ready md ops x = [i] := by simpa using h1
   refine ⟨fun e => (by rw [hr] at e; cases e), fun j hj => ?_⟩
   rw [hr] at hj
   obtain rfl : j = i := by simpa using hj
   exact wpOp_mono (fun b v hh => ⟨hh.1, Seq.anyE hs n r _ b v h2 hh.2 hE⟩) (wpOp_congQ (Q := endE Q E) (Q' := Q) (fun _ => rfl) rfl h)
  ·rename_i he
   rw [if_neg he, Bool.and_eq_true, Bool.and_eq_true] at h1
   obtain ⟨⟨h3, h4⟩, h5⟩ := h1
   split at h
   ·rename_i hl
    rw [hl, Bool.not_true, Bool.false_or] at h5
    obtain ⟨o, v, hi, hy, hS, hQ, hn⟩ := h
    exact AnyS.take (Q := Q) hi (Region.noSelect_spec hs) hQ (.inl ⟨rfl, h5⟩) (r.length + n) x a w (fun j oj hj hne hun hno => Region.free_spec hi h4 j oj hj hne hun hno) (by simpa using h3) hy hS (Seq.anyE hs n r _ _ _ h2 hn hE)
   ·obtain ⟨o, v, hi, hy, hQ, hn⟩ := h
    exact AnyS.take (Q := Q) hi (Region.noSelect_spec hs) hQ (.inr fun _ => trivial) (r.length + n) x a w (fun j oj hj hne hun hno => Region.free_spec hi h4 j oj hj hne hun hno) (by simpa using h3) hy trivial (Seq.anyE hs n r _ _ _ h2 hn hE)
inductive Tr where
 | fin (p : List Nat)
 | fork (p : List Nat) (t u : Tr)
def Tr.len : Tr → Nat
 | .fin p => p.length
 | .fork p t _ => p.length + t.len
def Tr.head : Tr → Option Nat
 | .fin p => p.head?
 | .fork p _ _ => p.head?
def SeqT (P : Program) (ops : Array Oper) (Q : Exit → Act → World → Prop) (S : World → Prop) (brk eff lds : List Nat) : Tr → Act → World → Prop
 | .fin p, a, w => Seq P ops Q S brk eff lds p a w
 | .fork p t u, a, w => Seq P ops (endE Q fun a w => SeqT P ops Q S brk eff lds t a w ∧ SeqT P ops Q S brk eff lds u a w) S brk eff lds p a w
def hdOk (md : Region.Mode) (ops : Array Oper) (brk eff lds : List Nat) (x : Array Bool) : List Nat → Bool
 | [] => false
 | i :: r => eff.contains i && begOk md ops brk eff lds (x.setIfInBounds i true) r
def trOk (md : Region.Mode) (ops : Array Oper) (brk eff lds : List Nat) : Bool → Array Bool → Tr → Bool
 | hd, x, .fin p => (if hd then hdOk md ops brk eff lds x p else begOk md ops brk eff lds x p) && (Region.ready md ops (marks x p)).isEmpty
 | hd, x, .fork p t u => (if hd then hdOk md ops brk eff lds x p else begOk md ops brk eff lds x p) &&
     ((t.head.toList ++ u.head.toList) == Region.ready md ops (marks x p) && (t.len == u.len && (trOk md ops brk eff lds true (marks x p) t && trOk md ops brk eff lds true (marks x p) u)))
def Shows (P : Program) (md : Region.Mode) (ops : Array Oper) (Q : Exit → Act → World → Prop) (S : World → Prop) (brk : List Nat) (hd : Bool) (n : Nat) (h : Option Nat) (x : Array Bool) (a : Act) (w : World) : Prop :=
 if hd then ∃ i m, h = some i ∧ n = m + 1 ∧ wpOp P ops Q i (fun b v => (brk.contains i = false → S w → S v) ∧ AnyS P md ops Q S brk m (x.setIfInBounds i true) b v) a w else AnyS P md ops Q S brk n x a w
theorem Seq.shows {E : Act → World → Prop} (hs : Region.noSelect ops = true) (hd : Bool) (n : Nat) (p : List Nat) (x : Array Bool) (a : Act) (w : World)
    (hk : (if hd then hdOk md ops brk eff lds x p else begOk md ops brk eff lds x p) = true) (h : Seq P ops (endE Q E) S brk eff lds p a w) (hE : ∀ b v, E b v → AnyS P md ops Q S brk n (marks x p) b v) :
    Shows P md ops Q S brk hd (p.length + n) p.head? x a w := by
 unfold Shows
 cases hd with
 | false => exact Seq.anyE hs n p x a w hk h hE
 | true =>
  cases p with
  | nil => cases hk
  | cons i r =>
   simp only [if_true] at hk ⊢
   unfold hdOk at hk
   rw [Bool.and_eq_true] at hk
   unfold Seq at h
   rw [if_pos hk.1] at h
   exact ⟨i, r.length + n, rfl, by rw [List.length_cons]; omega, wpOp_mono (fun b v hh => ⟨hh.1, Seq.anyE hs n r _ b v hk.2 hh.2 hE⟩) (wpOp_congQ (Q := endE Q E) (Q' := Q) (fun _ => rfl) rfl h)⟩
theorem endE_self : endE Q (Q .normal) = Q := by funext e; cases e <;> rfl
theorem SeqT.shows (hs : Region.noSelect ops = true) : ∀ (t : Tr) (hd : Bool) (x : Array Bool) (a : Act) (w : World), trOk md ops brk eff lds hd x t = true → SeqT P ops Q S brk eff lds t a w → Shows P md ops Q S brk hd t.len t.head x a w
 | .fin p, hd, x, a, w, hk, h => by
  unfold trOk at hk
  rw [Bool.and_eq_true] at hk
  unfold SeqT at h
  rw [← endE_self (Q := Q)] at h
  exact Seq.shows hs hd 0 p x a w hk.1 h fun b v hb => ⟨List.isEmpty_iff.1 hk.2, hb⟩
 | .fork p t u, hd, x, a, w, hk, h => by
  unfold trOk at hk
  rw [Bool.and_eq_true, Bool.and_eq_true, Bool.and_eq_true, Bool.and_eq_true] at hk
  obtain ⟨h1, h2, h3, h4, h5⟩ := hk
  unfold SeqT at h
  refine Seq.shows hs hd t.len p x a w h1 h fun b v hb => ?_
  have ht := SeqT.shows hs t true _ b v h4 hb.1
  have hu := SeqT.shows hs u true _ b v h5 hb.2
  unfold Shows at ht hu
  rw [if_pos rfl] at ht hu
  obtain ⟨i, m, hi, hm, hwi⟩ := ht
  obtain ⟨j, k, hj, hk, hwj⟩ := hu
  have h6 : t.len = u.len := by simpa using h3
  obtain rfl : m = k := by omega
  rw [hi, hj] at h2
  have hr : Region.ready md ops (marks x p) = [i, j] := (show [i, j] = Region.ready md ops (marks x p) from beq_iff_eq.1 h2).symm
  rw [hm]
  refine ⟨fun e => (by rw [hr] at e; cases e), fun l hl => ?_⟩
  rw [hr] at hl
  rcases List.mem_cons.1 hl with rfl | hl
  ·exact hwi
  ·obtain rfl : l = j := by simpa using hl
   exact hwj
end
section
variable {P : Program} {ops : Array Oper} {Q : Exit → Act → World → Prop} {L0 : List Ent} {brk eff lds : List Nat} {i : Nat} {r : List Nat} {o : Oper} {a : Act} {S : List Nat} {w0 w : World} {L : List Ent} {R R0 : List Rd}
abbrev SQT (P : Program) (ops : Array Oper) (Q : Exit → Act → World → Prop) (L0 : List Ent) (R0 : List Rd) (brk eff lds : List Nat) : Tr → Act → World → Prop := SeqT P ops Q (Kept L0 R0) brk eff lds
theorem q_tree {id : Nat} (k : Nat) (brk eff lds : List Nat) (t : Tr) (X : St S w0 w L R) (hm : P.follows .mixedOrders = true) (hs : (Region.noSelect ops && (t.len == ops.size && trOk .any ops brk eff lds false (Array.replicate ops.size false) t)) = true) (hQ : NoLook Q)
    (h : NoLook Q → St S w0 w.drew L R → Under (L.take k) R L R → SQT P ops Q (L.take k) R brk eff lds t a w.drew) : (Code.region id ops true).wp P Q a w := by
 rw [Bool.and_eq_true, Bool.and_eq_true] at hs
 obtain ⟨h1, h2, h3⟩ := hs
 have := SeqT.shows h1 t false _ a _ h3 (h hQ X.drew ⟨List.take_sublist _ _, fun _ h => h⟩)
 unfold Shows at this
 rw [if_neg (by decide), show t.len = ops.size by simpa using h2] at this
 exact wp_region_any hm (AnyS.any _ _ _ _ this)
theorem NoLook.endE (h : NoLook Q) (E : Act → World → Prop) : NoLook (endE Q E) := h
theorem t_fork {p : List Nat} {t u : Tr} (h : NoLook (endE Q fun a w => SQT P ops Q L0 R0 brk eff lds t a w ∧ SQT P ops Q L0 R0 brk eff lds u a w) → SQ P ops (endE Q fun a w => SQT P ops Q L0 R0 brk eff lds t a w ∧ SQT P ops Q L0 R0 brk eff lds u a w) L0 R0 brk eff lds p a w) (hQ : NoLook Q) : SQT P ops Q L0 R0 brk eff lds (.fork p t u) a w := h (hQ.endE _)
theorem t_fin {p : List Nat} (h : SQ P ops Q L0 R0 brk eff lds p a w) : SQT P ops Q L0 R0 brk eff lds (.fin p) a w := h
theorem t_two {A B : Act → World → Prop} (h1 : A a w) (h2 : B a w) : SQ P ops (endE Q fun a w => A a w ∧ B a w) L0 R0 brk eff lds [] a w := ⟨h1, h2⟩
theorem q_skipE (hi : oAt ops i = some o) (he : eff.contains i = true) (hw : Region.wanted o (yielded ops a.tmps) = false)
    (h : SQ P ops Q L0 R0 brk eff lds r (a.put o.dst undef) w) : SQ P ops Q L0 R0 brk eff lds (i :: r) a w := by
 unfold SQ Seq
 rw [if_pos he]
 unfold wpOp
 rw [oAt_get hi]
 simp only [hw]
 exact ⟨fun _ h => h, h⟩
theorem q_skipL (hi : oAt ops i = some o) (he : (!eff.contains i && lds.contains i) = true) (hw : Region.wanted o (yielded ops a.tmps) = false) (X : St S w0 w L R) (hL : Under L0 R0 L R) (hQ : NoLook Q)
    (h : SQ P ops Q L0 R0 brk eff lds r (a.put o.dst undef) w) : SQ P ops Q L0 R0 brk eff lds (i :: r) a w := by
 rw [Bool.and_eq_true, Bool.not_eq_true'] at he
 unfold SQ Seq
 rw [if_neg (by rw [he.1]; decide), if_pos he.2]
 exact ⟨o, undef, oAt_get hi, .inr ⟨hw, rfl⟩, X.keeps hL, fun c a w hh => hQ.all c a o.dst undef w hh, h⟩
theorem q_put1 (A B : List Ent) {x y : Operand} {T : TypeId} {g n : Nat} {cs : List Value} {t : TypeId} (hi : oAt ops i = some o) (ho : o.op = .store T x y) (hx : EvR a x (.pointer (some ⟨g, n, none⟩))) [OneT P T] {v : Value} (hy : EvR a y v)
    (X : St S w0 w (A ++ ⟨g, cs, t⟩ :: B) R) (hn : n < cs.length) (h1 : v.oneCell' = true) (hc : v.cells = #[v]) (he : eff.contains i = true) (hw : Region.wanted o (yielded ops a.tmps) = true) (hL : Under L0 R0 (A ++ ⟨g, cs, t⟩ :: B) R) (hA : L0.Sublist (A ++ B))
    (h : ∀ w', St S w0 w' (A ++ ⟨g, upd n [v] cs, t⟩ :: B) R → Under L0 R0 (A ++ ⟨g, upd n [v] cs, t⟩ :: B) R → SQ P ops Q L0 R0 brk eff lds r (a.put o.dst undef) w') : SQ P ops Q L0 R0 brk eff lds (i :: r) a w :=
 q_store1 A B hi ho hx hy X hn h1 hc he hw fun w' X2 => by
  have h3 : Under L0 R0 (A ++ ⟨g, upd n [v] cs, t⟩ :: B) R := ⟨hA.trans (List.Sublist.append_left (List.sublist_cons_self _ _) _), hL.r⟩
  exact ⟨fun _ _ => X2.keeps h3, h w' X2 h3⟩
theorem q_putN (A B : List Ent) {x y : Operand} {T : TypeId} {g n m : Nat} {cs : List Value} {t : TypeId} (hi : oAt ops i = some o) (ho : o.op = .store T x y) (hx : EvR a x (.pointer (some ⟨g, n, none⟩))) [hT : AggT P T m] {vs : List Value} (hy : a.eval y = .agg vs.toArray)
    (X : St S w0 w (A ++ ⟨g, cs, t⟩ :: B) R) (hm : vs.length = m) (hn : n + vs.length ≤ cs.length) (h1 : vs.all (·.oneCell') = true) (he : eff.contains i = true) (hw : Region.wanted o (yielded ops a.tmps) = true) (hL : Under L0 R0 (A ++ ⟨g, cs, t⟩ :: B) R) (hA : L0.Sublist (A ++ B))
    (h : ∀ w', St S w0 w' (A ++ ⟨g, upd n vs cs, t⟩ :: B) R → Under L0 R0 (A ++ ⟨g, upd n vs cs, t⟩ :: B) R → SQ P ops Q L0 R0 brk eff lds r (a.put o.dst undef) w') : SQ P ops Q L0 R0 brk eff lds (i :: r) a w :=
 q_storeN A B hi ho hx hy X hm hn h1 he hw fun w' X2 => by
  have h3 : Under L0 R0 (A ++ ⟨g, upd n vs cs, t⟩ :: B) R := ⟨hA.trans (List.Sublist.append_left (List.sublist_cons_self _ _) _), hL.r⟩
  exact ⟨fun _ _ => X2.keeps h3, h w' X2 h3⟩
end
inductive ReadA : List Ent → Nat → Nat → Value → Prop where
 | here {g : Nat} {cs : List Value} {t : TypeId} {L : List Ent} {i : Nat} {v : Value} (h : nth cs i = some v) : ReadA (⟨g, cs, t⟩ :: L) g i v
 | there {e : Ent} {L : List Ent} {g i : Nat} {v : Value} (h : ReadA L g i v) : ReadA (e :: L) g i v
inductive ReadB : List Ent → Nat → Nat → Nat → List Value → Prop where
 | here {g : Nat} {cs : List Value} {t : TypeId} {L : List Ent} {i n : Nat} (h : i + n ≤ cs.length) : ReadB (⟨g, cs, t⟩ :: L) g i n ((cs.drop i).take n)
 | there {e : Ent} {L : List Ent} {g i n : Nat} {vs : List Value} (h : ReadB L g i n vs) : ReadB (e :: L) g i n vs
inductive PutA : List Ent → Nat → Nat → List Value → List Ent → List Ent → Prop where
 | here {g : Nat} {cs : List Value} {t : TypeId} {L : List Ent} {i : Nat} {vs : List Value} (h : i + vs.length ≤ cs.length) : PutA (⟨g, cs, t⟩ :: L) g i vs (⟨g, upd i vs cs, t⟩ :: L) L
 | there {e : Ent} {L : List Ent} {g i : Nat} {vs : List Value} {L' B : List Ent} (h : PutA L g i vs L' B) : PutA (e :: L) g i vs (e :: L') (e :: B)
theorem ReadA.spec {L : List Ent} {g i : Nat} {v : Value} (h : ReadA L g i v) : ∃ cs t, (⟨g, cs, t⟩ : Ent) ∈ L ∧ nth cs i = some v := by
 induction h with
 | here h => exact ⟨_, _, .head _, h⟩
 | there _ ih => obtain ⟨cs, t, h1, h2⟩ := ih; exact ⟨cs, t, .tail _ h1, h2⟩
theorem ReadB.spec {L : List Ent} {g i n : Nat} {vs : List Value} (h : ReadB L g i n vs) : ∃ cs t, (⟨g, cs, t⟩ : Ent) ∈ L ∧ i + n ≤ cs.length ∧ vs = (cs.drop i).take n := by
 induction h with
 | here h => exact ⟨_, _, .head _, h, rfl⟩
 | there _ ih => obtain ⟨cs, t, h1, h2⟩ := ih; exact ⟨cs, t, .tail _ h1, h2⟩
theorem PutA.spec {L : List Ent} {g i : Nat} {vs : List Value} {L' D : List Ent} (h : PutA L g i vs L' D) : ∃ A B cs t, L = A ++ ⟨g, cs, t⟩ :: B ∧ L' = A ++ ⟨g, upd i vs cs, t⟩ :: B ∧ D = A ++ B ∧ i + vs.length ≤ cs.length := by
 induction h with
 | here h => exact ⟨[], _, _, _, rfl, rfl, rfl, h⟩
 | there _ ih => obtain ⟨A, B, cs, t, rfl, rfl, rfl, h⟩ := ih; exact ⟨_ :: A, B, cs, t, rfl, rfl, rfl, h⟩
section
variable {P : Program} {ops : Array Oper} {rest : List Oper} {o : Oper} {a : Act} {Q : Exit → Act → World → Prop} {S : List Nat} {w0 w : World} {L : List Ent} {R : List Rd}
theorem c_load1 (hw : Region.wanted o (yielded ops a.tmps) = true) (T : TypeId) (x : Operand) (ho : o.op = .load T x) {g i : Nat} (hx : a.eval x = .pointer (some ⟨g, i, none⟩)) [OneT P T] (X : St S w0 w L R) {v : Value} (he : ReadA L g i v)
    (h : wpList P ops Q rest (a.put o.dst v) w) : wpList P ops Q (o :: rest) a w := by
 obtain ⟨cs, t, h1, h2⟩ := he.spec
 exact m_load1 hw T x ho hx X h1 h2 h
theorem c_loadN (hw : Region.wanted o (yielded ops a.tmps) = true) (T : TypeId) (x : Operand) (ho : o.op = .load T x) {g i : Nat} (hx : a.eval x = .pointer (some ⟨g, i, none⟩)) {n : Nat} [hT : AggT P T n] (X : St S w0 w L R) {vs : List Value} (he : ReadB L g i n vs)
    (h : wpList P ops Q rest (a.put o.dst (.agg vs.toArray)) w) : wpList P ops Q (o :: rest) a w := by
 obtain ⟨cs, t, h1, h2, rfl⟩ := he.spec
 exact m_loadN hw T x ho hx X h1 h2 h
theorem c_store1 (hw : Region.wanted o (yielded ops a.tmps) = true) (T : TypeId) (x y : Operand) (ho : o.op = .store T x y) {g i : Nat} (hx : a.eval x = .pointer (some ⟨g, i, none⟩)) [hT : OneT P T]
    {v : Value} (hy0 : EvR a y v) (X : St S w0 w L R) (h1 : v.oneCell' = true) (hc : v.cells = #[v]) {L' D : List Ent} (hp : PutA L g i [v] L' D)
    (h : ∀ w', St S w0 w' L' R → wpList P ops Q rest (a.put o.dst undef) w') : wpList P ops Q (o :: rest) a w := by
 obtain ⟨A, B, cs, t, rfl, rfl, rfl, hi⟩ := hp.spec
 exact m_store1 A B hw T x y ho hx hy0 X hi h1 hc h
theorem c_storeN (hw : Region.wanted o (yielded ops a.tmps) = true) (T : TypeId) (x y : Operand) (ho : o.op = .store T x y) {g i : Nat} (hx : a.eval x = .pointer (some ⟨g, i, none⟩)) {n : Nat} [hT : AggT P T n]
    {vs : List Value} (hy : a.eval y = .agg vs.toArray) (X : St S w0 w L R) (hn : vs.length = n) (h1 : vs.all (·.oneCell') = true) {L' D : List Ent} (hp : PutA L g i vs L' D)
    (h : ∀ w', St S w0 w' L' R → wpList P ops Q rest (a.put o.dst undef) w') : wpList P ops Q (o :: rest) a w := by
 obtain ⟨A, B, cs, t, rfl, rfl, rfl, hi⟩ := hp.spec
 exact m_storeN A B hw T x y ho hx hy X hn hi h1 h
end
section
variable {P : Program} {ops : Array Oper} {Q : Exit → Act → World → Prop} {L0 : List Ent} {R0 : List Rd} {brk eff lds : List Nat} {i : Nat} {r : List Nat} {o : Oper} {a : Act} {S : List Nat} {w0 w : World} {L : List Ent} {R : List Rd}
theorem d_load1 {x : Operand} {T : TypeId} {g n : Nat} (hi : oAt ops i = some o) (ho : o.op = .load T x) (hx : EvR a x (.pointer (some ⟨g, n, none⟩))) [OneT P T] {v : Value} (hm : ReadA L0 g n v)
    (he : (!eff.contains i && lds.contains i) = true) (hw : Region.wanted o (yielded ops a.tmps) = true) (X : St S w0 w L R) (hL : Under L0 R0 L R) (hQ : NoLook Q)
    (h : SQ P ops Q L0 R0 brk eff lds r (a.put o.dst v) w) : SQ P ops Q L0 R0 brk eff lds (i :: r) a w := by
 obtain ⟨cs, t, h1, h2⟩ := hm.spec
 exact q_load1 hi ho hx h1 h2 he hw X hL hQ h
theorem d_loadN {x : Operand} {T : TypeId} {g n m : Nat} (hi : oAt ops i = some o) (ho : o.op = .load T x) (hx : EvR a x (.pointer (some ⟨g, n, none⟩))) [hT : AggT P T m] {vs : List Value} (hm : ReadB L0 g n m vs)
    (he : (!eff.contains i && lds.contains i) = true) (hw : Region.wanted o (yielded ops a.tmps) = true) (X : St S w0 w L R) (hL : Under L0 R0 L R) (hQ : NoLook Q)
    (h : SQ P ops Q L0 R0 brk eff lds r (a.put o.dst (.agg vs.toArray)) w) : SQ P ops Q L0 R0 brk eff lds (i :: r) a w := by
 obtain ⟨cs, t, h1, h2, rfl⟩ := hm.spec
 exact q_loadN hi ho hx h1 h2 he hw X hL hQ h
theorem d_brk1 {x y : Operand} {T : TypeId} {g n : Nat} (hi : oAt ops i = some o) (ho : o.op = .store T x y) (hx : EvR a x (.pointer (some ⟨g, n, none⟩))) [OneT P T] {v : Value} (hy : EvR a y v)
    (X : St S w0 w L R) (h1 : v.oneCell' = true) (hc : v.cells = #[v]) (he : eff.contains i = true) (hb : brk.contains i = true) (hw : Region.wanted o (yielded ops a.tmps) = true) {L' D : List Ent} (hp : PutA L g n [v] L' D)
    (h : ∀ w', St S w0 w' L' R → SQ P ops Q L0 R0 brk eff lds r (a.put o.dst undef) w') : SQ P ops Q L0 R0 brk eff lds (i :: r) a w := by
 obtain ⟨A, B, cs, t, rfl, rfl, rfl, hn⟩ := hp.spec
 exact q_store1 A B hi ho hx hy X hn h1 hc he hw fun w' X2 => ⟨fun hb2 _ => (by rw [hb] at hb2; cases hb2), h w' X2⟩
theorem d_brkN {x y : Operand} {T : TypeId} {g n m : Nat} (hi : oAt ops i = some o) (ho : o.op = .store T x y) (hx : EvR a x (.pointer (some ⟨g, n, none⟩))) [hT : AggT P T m] {vs : List Value} (hy : a.eval y = .agg vs.toArray)
    (X : St S w0 w L R) (hm : vs.length = m) (h1 : vs.all (·.oneCell') = true) (he : eff.contains i = true) (hb : brk.contains i = true) (hw : Region.wanted o (yielded ops a.tmps) = true) {L' D : List Ent} (hp : PutA L g n vs L' D)
    (h : ∀ w', St S w0 w' L' R → SQ P ops Q L0 R0 brk eff lds r (a.put o.dst undef) w') : SQ P ops Q L0 R0 brk eff lds (i :: r) a w := by
 obtain ⟨A, B, cs, t, rfl, rfl, rfl, hn⟩ := hp.spec
 exact q_storeN A B hi ho hx hy X hm hn h1 he hw fun w' X2 => ⟨fun hb2 _ => (by rw [hb] at hb2; cases hb2), h w' X2⟩
theorem d_put1 {x y : Operand} {T : TypeId} {g n : Nat} (hi : oAt ops i = some o) (ho : o.op = .store T x y) (hx : EvR a x (.pointer (some ⟨g, n, none⟩))) [OneT P T] {v : Value} (hy : EvR a y v)
    (X : St S w0 w L R) (h1 : v.oneCell' = true) (hc : v.cells = #[v]) (he : eff.contains i = true) (hw : Region.wanted o (yielded ops a.tmps) = true) (hL : Under L0 R0 L R) {L' D : List Ent} (hp : PutA L g n [v] L' D) (hA : L0.Sublist D)
    (h : ∀ w', St S w0 w' L' R → Under L0 R0 L' R → SQ P ops Q L0 R0 brk eff lds r (a.put o.dst undef) w') : SQ P ops Q L0 R0 brk eff lds (i :: r) a w := by
 obtain ⟨A, B, cs, t, rfl, rfl, rfl, hn⟩ := hp.spec
 exact q_put1 A B hi ho hx hy X hn h1 hc he hw hL hA h
theorem d_putN {x y : Operand} {T : TypeId} {g n m : Nat} (hi : oAt ops i = some o) (ho : o.op = .store T x y) (hx : EvR a x (.pointer (some ⟨g, n, none⟩))) [hT : AggT P T m] {vs : List Value} (hy : a.eval y = .agg vs.toArray)
    (X : St S w0 w L R) (hm : vs.length = m) (h1 : vs.all (·.oneCell') = true) (he : eff.contains i = true) (hw : Region.wanted o (yielded ops a.tmps) = true) (hL : Under L0 R0 L R) {L' D : List Ent} (hp : PutA L g n vs L' D) (hA : L0.Sublist D)
    (h : ∀ w', St S w0 w' L' R → Under L0 R0 L' R → SQ P ops Q L0 R0 brk eff lds r (a.put o.dst undef) w') : SQ P ops Q L0 R0 brk eff lds (i :: r) a w := by
 obtain ⟨A, B, cs, t, rfl, rfl, rfl, hn⟩ := hp.spec
 exact q_putN A B hi ho hx hy X hm hn h1 he hw hL hA h
end
section
variable {P : Program} {ops : Array Oper} {rest : List Oper} {o : Oper} {a : Act} {Q : Exit → Act → World → Prop} {S : List Nat} {w0 w : World} {L : List Ent} {R : List Rd}
theorem c_load1S {T : TypeId} {x : Operand} {g i : Nat} (X : St S w0 w L R) {v : Value} (h : wpList P ops Q rest (a.put o.dst v) w) (hw : Region.wanted o (yielded ops a.tmps) = true := by rfl) (ho : o.op = .load T x := by rfl) (hT : OneT P T := by infer_instance) (hx : a.eval x = .pointer (some ⟨g, i, none⟩) := by rfl) (he : ReadA L g i v := by first | exact ReadA.here rfl | exact ReadA.there (ReadA.here rfl) | exact ReadA.there (ReadA.there (ReadA.here rfl)) | exact ReadA.there (ReadA.there (ReadA.there (ReadA.here rfl))) | exact ReadA.there (ReadA.there (ReadA.there (ReadA.there (ReadA.here rfl)))) | exact ReadA.there (ReadA.there (ReadA.there (ReadA.there (ReadA.there (ReadA.here rfl)))))) :
    wpList P ops Q (o :: rest) a w := c_load1 hw T x ho hx X he h
theorem c_loadNS {T : TypeId} {x : Operand} {g i n : Nat} (X : St S w0 w L R) {vs : List Value} (h : wpList P ops Q rest (a.put o.dst (.agg vs.toArray)) w) (hw : Region.wanted o (yielded ops a.tmps) = true := by rfl) (ho : o.op = .load T x := by rfl) (hT : AggT P T n := by infer_instance) (hx : a.eval x = .pointer (some ⟨g, i, none⟩) := by rfl) (he : ReadB L g i n vs := by first | exact ReadB.here (Nat.le_of_ble_eq_true rfl) | exact ReadB.there (ReadB.here (Nat.le_of_ble_eq_true rfl)) | exact ReadB.there (ReadB.there (ReadB.here (Nat.le_of_ble_eq_true rfl))) | exact ReadB.there (ReadB.there (ReadB.there (ReadB.here (Nat.le_of_ble_eq_true rfl)))) | exact ReadB.there (ReadB.there (ReadB.there (ReadB.there (ReadB.here (Nat.le_of_ble_eq_true rfl))))) | exact ReadB.there (ReadB.there (ReadB.there (ReadB.there (ReadB.there (ReadB.here (Nat.le_of_ble_eq_true rfl))))))) :
    wpList P ops Q (o :: rest) a w := c_loadN hw T x ho hx X he h
theorem c_store1S {T : TypeId} {x y : Operand} {g i : Nat} {v : Value} (X : St S w0 w L R) {L' D : List Ent} (h : ∀ w', St S w0 w' L' R → wpList P ops Q rest (a.put o.dst undef) w') (hw : Region.wanted o (yielded ops a.tmps) = true := by rfl) (ho : o.op = .store T x y := by rfl) (hT : OneT P T := by infer_instance) (hx : a.eval x = .pointer (some ⟨g, i, none⟩) := by rfl) (hy0 : EvR a y v := by first | exact EvR.const _ | exact EvR.tmp rfl rfl) (h1 : v.oneCell' = true := by rfl) (hc : v.cells = #[v] := by rfl) (hp : PutA L g i [v] L' D := by first | exact PutA.here (Nat.le_of_ble_eq_true rfl) | exact PutA.there (PutA.here (Nat.le_of_ble_eq_true rfl)) | exact PutA.there (PutA.there (PutA.here (Nat.le_of_ble_eq_true rfl))) | exact PutA.there (PutA.there (PutA.there (PutA.here (Nat.le_of_ble_eq_true rfl)))) | exact PutA.there (PutA.there (PutA.there (PutA.there (PutA.here (Nat.le_of_ble_eq_true rfl))))) | exact PutA.there (PutA.there (PutA.there (PutA.there (PutA.there (PutA.here (Nat.le_of_ble_eq_true rfl))))))) :
    wpList P ops Q (o :: rest) a w := c_store1 hw T x y ho hx hy0 X h1 hc hp h
theorem c_storeNS {T : TypeId} {x y : Operand} {g i n : Nat} {vs : List Value} (X : St S w0 w L R) {L' D : List Ent} (h : ∀ w', St S w0 w' L' R → wpList P ops Q rest (a.put o.dst undef) w') (hw : Region.wanted o (yielded ops a.tmps) = true := by rfl) (ho : o.op = .store T x y := by rfl) (hT : AggT P T n := by infer_instance) (hx : a.eval x = .pointer (some ⟨g, i, none⟩) := by rfl) (hy : a.eval y = .agg vs.toArray := by rfl) (hn : vs.length = n := by rfl) (h1 : vs.all (·.oneCell') = true := by rfl) (hp : PutA L g i vs L' D := by first | exact PutA.here (Nat.le_of_ble_eq_true rfl) | exact PutA.there (PutA.here (Nat.le_of_ble_eq_true rfl)) | exact PutA.there (PutA.there (PutA.here (Nat.le_of_ble_eq_true rfl))) | exact PutA.there (PutA.there (PutA.there (PutA.here (Nat.le_of_ble_eq_true rfl)))) | exact PutA.there (PutA.there (PutA.there (PutA.there (PutA.here (Nat.le_of_ble_eq_true rfl))))) | exact PutA.there (PutA.there (PutA.there (PutA.there (PutA.there (PutA.here (Nat.le_of_ble_eq_true rfl))))))) :
    wpList P ops Q (o :: rest) a w := c_storeN hw T x y ho hx hy X hn h1 hp h
end
section
variable {P : Program} {ops : Array Oper} {Q : Exit → Act → World → Prop} {L0 : List Ent} {R0 : List Rd} {brk eff lds : List Nat} {i : Nat} {r : List Nat} {o : Oper} {a : Act} {S : List Nat} {w0 w : World} {L : List Ent} {R : List Rd}
theorem d_load1S {x : Operand} {T : TypeId} {g n : Nat} {v : Value} (X : St S w0 w L R) (hL : Under L0 R0 L R) (hQ : NoLook Q) (h : SQ P ops Q L0 R0 brk eff lds r (a.put o.dst v) w) (hi : oAt ops i = some o := by rfl) (ho : o.op = .load T x := by rfl) (hT : OneT P T := by infer_instance) (hx : EvR a x (.pointer (some ⟨g, n, none⟩)) := by first | exact EvR.const _ | exact EvR.tmp rfl rfl) (hm : ReadA L0 g n v := by repeat (first | exact ReadA.here rfl | apply ReadA.there)) (he : (!eff.contains i && lds.contains i) = true := by rfl) (hw : Region.wanted o (yielded ops a.tmps) = true := by rfl) :
    SQ P ops Q L0 R0 brk eff lds (i :: r) a w := d_load1 hi ho hx hm he hw X hL hQ h
theorem d_loadNS {x : Operand} {T : TypeId} {g n m : Nat} {vs : List Value} (X : St S w0 w L R) (hL : Under L0 R0 L R) (hQ : NoLook Q) (h : SQ P ops Q L0 R0 brk eff lds r (a.put o.dst (.agg vs.toArray)) w) (hi : oAt ops i = some o := by rfl) (ho : o.op = .load T x := by rfl) (hT : AggT P T m := by infer_instance) (hx : EvR a x (.pointer (some ⟨g, n, none⟩)) := by first | exact EvR.const _ | exact EvR.tmp rfl rfl) (hm : ReadB L0 g n m vs := by repeat (first | exact ReadB.here (Nat.le_of_ble_eq_true rfl) | apply ReadB.there)) (he : (!eff.contains i && lds.contains i) = true := by rfl) (hw : Region.wanted o (yielded ops a.tmps) = true := by rfl) :
    SQ P ops Q L0 R0 brk eff lds (i :: r) a w := d_loadN hi ho hx hm he hw X hL hQ h
theorem d_brk1S {x y : Operand} {T : TypeId} {g n : Nat} {v : Value} (X : St S w0 w L R) {L' D : List Ent} (h : ∀ w', St S w0 w' L' R → SQ P ops Q L0 R0 brk eff lds r (a.put o.dst undef) w') (hi : oAt ops i = some o := by rfl) (ho : o.op = .store T x y := by rfl) (hT : OneT P T := by infer_instance) (hx : EvR a x (.pointer (some ⟨g, n, none⟩)) := by first | exact EvR.const _ | exact EvR.tmp rfl rfl) (hy : EvR a y v := by first | exact EvR.const _ | exact EvR.tmp rfl rfl) (h1 : v.oneCell' = true := by rfl) (hc : v.cells = #[v] := by rfl) (he : eff.contains i = true := by rfl) (hb : brk.contains i = true := by rfl) (hw : Region.wanted o (yielded ops a.tmps) = true := by rfl) (hp : PutA L g n [v] L' D := by repeat (first | exact PutA.here (Nat.le_of_ble_eq_true rfl) | apply PutA.there)) :
    SQ P ops Q L0 R0 brk eff lds (i :: r) a w := d_brk1 hi ho hx hy X h1 hc he hb hw hp h
theorem d_brkNS {x y : Operand} {T : TypeId} {g n m : Nat} {vs : List Value} (X : St S w0 w L R) {L' D : List Ent} (h : ∀ w', St S w0 w' L' R → SQ P ops Q L0 R0 brk eff lds r (a.put o.dst undef) w') (hi : oAt ops i = some o := by rfl) (ho : o.op = .store T x y := by rfl) (hT : AggT P T m := by infer_instance) (hx : EvR a x (.pointer (some ⟨g, n, none⟩)) := by first | exact EvR.const _ | exact EvR.tmp rfl rfl) (hy : a.eval y = .agg vs.toArray := by rfl) (hm : vs.length = m := by rfl) (h1 : vs.all (·.oneCell') = true := by rfl) (he : eff.contains i = true := by rfl) (hb : brk.contains i = true := by rfl) (hw : Region.wanted o (yielded ops a.tmps) = true := by rfl) (hp : PutA L g n vs L' D := by repeat (first | exact PutA.here (Nat.le_of_ble_eq_true rfl) | apply PutA.there)) :
    SQ P ops Q L0 R0 brk eff lds (i :: r) a w := d_brkN hi ho hx hy X hm h1 he hb hw hp h
theorem d_put1S {x y : Operand} {T : TypeId} {g n : Nat} {v : Value} (X : St S w0 w L R) (hL : Under L0 R0 L R) {L' D : List Ent} (h : ∀ w', St S w0 w' L' R → Under L0 R0 L' R → SQ P ops Q L0 R0 brk eff lds r (a.put o.dst undef) w') (hi : oAt ops i = some o := by rfl) (ho : o.op = .store T x y := by rfl) (hT : OneT P T := by infer_instance) (hx : EvR a x (.pointer (some ⟨g, n, none⟩)) := by first | exact EvR.const _ | exact EvR.tmp rfl rfl) (hy : EvR a y v := by first | exact EvR.const _ | exact EvR.tmp rfl rfl) (h1 : v.oneCell' = true := by rfl) (hc : v.cells = #[v] := by rfl) (he : eff.contains i = true := by rfl) (hw : Region.wanted o (yielded ops a.tmps) = true := by rfl) (hp : PutA L g n [v] L' D := by repeat (first | exact PutA.here (Nat.le_of_ble_eq_true rfl) | apply PutA.there)) (hA : L0.Sublist D := by repeat (first | exact List.Sublist.slnil | exact List.nil_sublist _ | refine List.Sublist.cons_cons _ ?_ | refine List.Sublist.cons _ ?_)) :
    SQ P ops Q L0 R0 brk eff lds (i :: r) a w := d_put1 hi ho hx hy X h1 hc he hw hL hp hA h
theorem d_putNS {x y : Operand} {T : TypeId} {g n m : Nat} {vs : List Value} (X : St S w0 w L R) (hL : Under L0 R0 L R) {L' D : List Ent} (h : ∀ w', St S w0 w' L' R → Under L0 R0 L' R → SQ P ops Q L0 R0 brk eff lds r (a.put o.dst undef) w') (hi : oAt ops i = some o := by rfl) (ho : o.op = .store T x y := by rfl) (hT : AggT P T m := by infer_instance) (hx : EvR a x (.pointer (some ⟨g, n, none⟩)) := by first | exact EvR.const _ | exact EvR.tmp rfl rfl) (hy : a.eval y = .agg vs.toArray := by rfl) (hm : vs.length = m := by rfl) (h1 : vs.all (·.oneCell') = true := by rfl) (he : eff.contains i = true := by rfl) (hw : Region.wanted o (yielded ops a.tmps) = true := by rfl) (hp : PutA L g n vs L' D := by repeat (first | exact PutA.here (Nat.le_of_ble_eq_true rfl) | apply PutA.there)) (hA : L0.Sublist D := by repeat (first | exact List.Sublist.slnil | exact List.nil_sublist _ | refine List.Sublist.cons_cons _ ?_ | refine List.Sublist.cons _ ?_)) :
    SQ P ops Q L0 R0 brk eff lds (i :: r) a w := d_putN hi ho hx hy X hm h1 he hw hL hp hA h
end
theorem Zra {A : Prop} (h : A := by repeat (first | exact ReadA.here rfl | apply ReadA.there)) : A := h
theorem Zrb {A : Prop} (h : A := by repeat (first | exact ReadB.here (Nat.le_of_ble_eq_true rfl) | apply ReadB.there)) : A := h
theorem Zpa {A : Prop} (h : A := by repeat (first | exact PutA.here (Nat.le_of_ble_eq_true rfl) | apply PutA.there)) : A := h
theorem Zrc {A : Prop} (h : A := by first | exact ReadA.here rfl | exact ReadA.there (ReadA.here rfl)) : A := h
theorem Zrd {A : Prop} (h : A := by first | exact ReadB.here (Nat.le_of_ble_eq_true rfl) | exact ReadB.there (ReadB.here (Nat.le_of_ble_eq_true rfl))) : A := h
theorem Zpb {A : Prop} (h : A := by first | exact PutA.here (Nat.le_of_ble_eq_true rfl) | exact PutA.there (PutA.here (Nat.le_of_ble_eq_true rfl))) : A := h
theorem Zsn {A : Prop} (h : A := by repeat (first | exact List.nil_sublist _ | refine List.Sublist.cons_cons _ ?_ | refine List.Sublist.cons _ ?_)) : A := h
section
variable {P : Program} {ops : Array Oper} {Q : Exit → Act → World → Prop} {L0 : List Ent} {brk eff lds : List Nat} {i : Nat} {r : List Nat} {o : Oper} {a : Act} {S : List Nat} {w0 w : World} {L : List Ent} {R R0 : List Rd}
theorem q_startS {id : Nat} (k : Nat) (brk eff lds perm : List Nat) (X : St S w0 w L R)
    (h : NoLook Q → St S w0 w.drew L R → Under (L.take k) R L R → SQ P ops Q (L.take k) R brk eff lds perm a w.drew) (hm : P.follows .mixedOrders = true := by kernel_rfl) (hs : (Region.noSelect ops && (perm.length == ops.size && ordOk .any ops brk eff lds (Array.replicate ops.size false) perm)) = true := by kernel_rfl) (hQ : NoLook Q := by exact fun _ _ _ _ _ h => h) : (Code.region id ops true).wp P Q a w := q_start k brk eff lds perm X hm hs hQ h
theorem q_treeS {id : Nat} (k : Nat) (brk eff lds : List Nat) (t : Tr) (X : St S w0 w L R)
    (h : NoLook Q → St S w0 w.drew L R → Under (L.take k) R L R → SQT P ops Q (L.take k) R brk eff lds t a w.drew) (hm : P.follows .mixedOrders = true := by kernel_rfl) (hs : (Region.noSelect ops && (t.len == ops.size && trOk .any ops brk eff lds false (Array.replicate ops.size false) t)) = true := by kernel_rfl) (hQ : NoLook Q := by exact fun _ _ _ _ _ h => h) : (Code.region id ops true).wp P Q a w := q_tree k brk eff lds t X hm hs hQ h
theorem q_callS (f : FuncId) {xs : List Operand} {ts : Array TypeId} {args : Array Value} {fn : Func} {c : Code} (hf : P.funcs[f]? = some fn) {F : Ending → World → Prop} (h : Calls P f args w F)
    (hK : ∀ e w', F e w' → ∃ v, e = .returned v ∧ (brk.contains i = false → Kept L0 R0 w → Kept L0 R0 w') ∧ SQ P ops Q L0 R0 brk eff lds r (a.put o.dst v) w')
    (hi : oAt ops i = some o := by rfl) (ho : o.op = .call { callee := .value (.func f), args := xs.toArray, argTypes := ts } := by rfl) (ha : (xs.map a.eval).toArray = args := by rfl) (hn : (fn.name == "runtime.NumGoroutine") = false := by kernel_rfl) (hb : fn.body = some c := by rfl) (he : eff.contains i = true := by rfl) (hw : Region.wanted o (yielded ops a.tmps) = true := by rfl) : SQ P ops Q L0 R0 brk eff lds (i :: r) a w :=
 q_call f xs ts hi ho args ha ⟨fn, c, hf, hn, hb⟩ he hw h hK
end
theorem Zm {A B : Prop} (k : B) (h : B → A := by intro k; (refine q_moveS hQ ?_; (simp only [Act.put, zA, zB, zC, zD, zE, zF, zG, Nat.reduceAdd])); exact k) : A := h k
theorem Za {A B : Prop} (k : B) (h : B → A := by intro k; (refine q_assignS hQ ?_; (simp only [Act.put, zA, zB, zC, zD, zE, zF, zG, Nat.reduceAdd])); exact k) : A := h k
theorem Zf {A B : Prop} (k : B) (h : B → A := by intro k; (refine q_fieldS hQ ?_; (simp only [Act.put, zA, zB, zC, zD, zE, zF, zG, Nat.reduceAdd])); exact k) : A := h k
theorem Zx {A B : Prop} (k : B) (h : B → A := by intro k; (refine q_extract rfl rfl Zev rfl rfl rfl hQ ?_; (simp only [Act.put, zA, zB, zC, zD, zE, zF, zG, Nat.reduceAdd])); exact k) : A := h k
theorem Zg {A B : Prop} (k : B) (h : B → A := by intro k; (apply q_pure rfl rfl rfl hQ; (case hv => (intro w'; (try go_simp); (try exact rfl))); (simp only [Act.put, zA, zB, zC, zD, zE, zF, zG, Nat.reduceAdd])); exact k) : A := h k
theorem Zl {A B : Prop} (k : B) (h : B → A := by intro k; ((first | refine d_load1S X hL hQ ?_ | refine d_loadNS X hL hQ ?_); (simp only [Act.put, zA, zB, zC, zD, zE, zF, zG, Nat.reduceAdd])); exact k) : A := h k
theorem Zk {A B : Prop} (k : B) (h : B → A := by intro k; (first | (refine q_skip rfl rfl rfl hQ ?_; (simp only [Act.put, zA, zB, zC, zD, zE, zF, zG, Nat.reduceAdd])) | (refine q_skipE rfl rfl rfl ?_; (simp only [Act.put, zA, zB, zC, zD, zE, zF, zG, Nat.reduceAdd])) | (refine q_skipL rfl rfl rfl X hL hQ ?_; (simp only [Act.put, zA, zB, zC, zD, zE, zF, zG, Nat.reduceAdd]))); exact k) : A := h k
theorem Zb {A B : Prop} (k : B) (h : B → A := by intro k; ((first | refine d_brk1S X ?_ | refine d_brkNS X ?_); intro w X2; (try simp only [upd] at X2); (simp only [Act.put, zA, zB, zC, zD, zE, zF, zG, Nat.reduceAdd]); revert X2; revert w); exact k) : A := h k
theorem Zs {A B : Prop} (k : B) (h : B → A := by intro k; ((first | refine d_put1S X hL ?_ | refine d_putNS X hL ?_); intro w X2 hL2; (try simp only [upd] at X2); (try simp only [upd] at hL2); (simp only [Act.put, zA, zB, zC, zD, zE, zF, zG, Nat.reduceAdd]); revert hL2; revert X2; revert w); exact k) : A := h k
theorem Zq {A B : Prop} (k : B) (h : B → A := by intro k; (refine q_alloc rfl rfl X hL rfl rfl ?_; intro g w X2 hL2; (simp only [Act.put, zA, zB, zC, zD, zE, zF, zG, Nat.reduceAdd]); revert hL2; revert X2; revert g w); exact k) : A := h k
theorem Zbx {A B : Prop} (k : B) (h : B → A := by intro k; (refine at_mem rfl ?_; refine m_box rfl _ _ rfl Zev rfl X ?_; intro g w X2; (simp only [Act.put, zA, zB, zC, zD, zE, zF, zG, Nat.reduceAdd]); revert X2; revert g w); exact k) : A := h k
theorem Zce {A B : Prop} (k : B) (h : B → A := by intro k; ((have hL2 := X.und (by first | exact hL | exact hL.up | exact hL.up3 | exact hL.up.up)); refine ⟨_, rfl, fun _ _ => X.keeps hL2, ?_⟩; (simp only [Act.put, zA, zB, zC, zD, zE, zF, zG, Nat.reduceAdd]); revert hL2); exact k) : A := h k
theorem ZcL {A B : Prop} (k : B) (h : B → A := by intro k; (refine at_mem rfl ?_; (refine at_load rfl ?_; (first | refine c_load1 rfl _ _ rfl rfl X Zra ?_ | refine c_loadN rfl _ _ rfl rfl X Zrb ?_)); (simp only [Act.put, zA, zB, zC, zD, zE, zF, zG, Nat.reduceAdd])); exact k) : A := h k
theorem ZcS {A B : Prop} (k : B) (h : B → A := by intro k; (refine at_mem rfl ?_; (refine at_store rfl ?_; (first | refine c_store1 rfl _ _ _ rfl rfl Zev X rfl rfl Zpa ?_ | refine c_storeN rfl _ _ _ rfl rfl rfl X rfl rfl Zpa ?_)); intro w X2; (try simp only [upd] at X2); (simp only [Act.put, zA, zB, zC, zD, zE, zF, zG, Nat.reduceAdd]); revert X2; revert w); exact k) : A := h k
theorem ZcA {A B : Prop} (k : B) (h : B → A := by intro k; (refine at_mem rfl ?_; (first | refine m_alloc rfl _ rfl X ?_ | refine m_box rfl _ _ rfl Zev rfl X ?_); intro g w X2; (simp only [Act.put, zA, zB, zC, zD, zE, zF, zG, Nat.reduceAdd]); revert X2; revert g w); exact k) : A := h k
theorem ZeL {A B : Prop} (k : B) (h : B → A := by intro k; (refine at_mem rfl ?_; (refine at_load rfl ?_; (first | refine c_load1 rfl _ _ rfl rfl X Zrc ?_ | refine c_loadN rfl _ _ rfl rfl X Zrd ?_)); (simp only [Act.put, zA, zB, zC, zD, zE, zF, zG, Nat.reduceAdd])); exact k) : A := h k
theorem ZeS {A B : Prop} (k : B) (h : B → A := by intro k; (refine at_mem rfl ?_; (refine at_store rfl ?_; (first | refine c_store1 rfl _ _ _ rfl rfl Zev X rfl rfl Zpb ?_ | refine c_storeN rfl _ _ _ rfl rfl rfl X rfl rfl Zpb ?_)); intro w X2; (try simp only [upd] at X2); (simp only [Act.put, zA, zB, zC, zD, zE, zF, zG, Nat.reduceAdd]); revert X2; revert w); exact k) : A := h k
theorem ZeA {A B : Prop} (k : B) (h : B → A := by intro k; (refine at_mem rfl ?_; refine m_alloc rfl _ rfl X ?_; intro g w X2; (simp only [Act.put, zA, zB, zC, zD, zE, zF, zG, Nat.reduceAdd]); revert X2; revert g w); exact k) : A := h k
theorem at_want2 {P : Program} {ops : Array Oper} {rest : List Oper} {o : Oper} {a : Act} {Q : Exit → Act → World → Prop} {w : World} (_ : Region.wanted o (yielded ops a.tmps) = true) (h : wpList P ops Q (o :: rest) a w) : wpList P ops Q (o :: rest) a w := h
theorem ZdL {A B : Prop} (k : B) (h : B → A := by intro k; (refine at_mem rfl ?_; refine at_want2 (by kernel_rfl) ?_; (refine at_load rfl ?_; (first | refine c_load1 rfl _ _ rfl rfl X Zra ?_ | refine c_loadN rfl _ _ rfl rfl X Zrb ?_)); (simp only [Act.put, zA, zB, zC, zD, zE, zF, zG, Nat.reduceAdd])); exact k) : A := h k
theorem ZdS {A B : Prop} (k : B) (h : B → A := by intro k; (refine at_mem rfl ?_; refine at_want2 (by kernel_rfl) ?_; (refine at_store rfl ?_; (first | refine c_store1 rfl _ _ _ rfl rfl Zev X rfl rfl Zpa ?_ | refine c_storeN rfl _ _ _ rfl rfl rfl X rfl rfl Zpa ?_)); intro w X2; (try simp only [upd] at X2); (simp only [Act.put, zA, zB, zC, zD, zE, zF, zG, Nat.reduceAdd]); revert X2; revert w); exact k) : A := h k
theorem ZdA {A B : Prop} (k : B) (h : B → A := by intro k; (refine at_mem rfl ?_; refine at_want2 (by kernel_rfl) ?_; (first | refine m_alloc rfl _ rfl X ?_ | refine m_box rfl _ _ rfl Zev rfl X ?_); intro g w X2; (simp only [Act.put, zA, zB, zC, zD, zE, zF, zG, Nat.reduceAdd]); revert X2; revert g w); exact k) : A := h k
theorem ZyL {A B : Prop} (k : B) (h : B → A := by intro k; (refine at_mem rfl ?_; refine at_want2 (by kernel_rfl) ?_; (refine at_load rfl ?_; (first | refine c_load1S X ?_ | refine c_loadNS X ?_)); (simp only [Act.put, zA, zB, zC, zD, zE, zF, zG, Nat.reduceAdd])); exact k) : A := h k
theorem ZyS {A B : Prop} (k : B) (h : B → A := by intro k; (refine at_mem rfl ?_; refine at_want2 (by kernel_rfl) ?_; (refine at_store rfl ?_; (first | refine c_store1S X ?_ | refine c_storeNS X ?_)); intro w X2; (try simp only [upd] at X2); (simp only [Act.put, zA, zB, zC, zD, zE, zF, zG, Nat.reduceAdd]); revert X2; revert w); exact k) : A := h k
theorem ZyA {A B : Prop} (k : B) (h : B → A := by intro k; (refine at_mem rfl ?_; refine at_want2 (by kernel_rfl) ?_; refine m_alloc rfl _ rfl X ?_; intro g w X2; (simp only [Act.put, zA, zB, zC, zD, zE, zF, zG, Nat.reduceAdd]); revert X2; revert g w); exact k) : A := h k
end Wb
namespace Go.Proofs.YtjhmfljlclajnacDoor
open Go.RowKit Wb
instance : AggT Tryd.prog 55 10 := ⟨⟨_, Tryd.underlying55, rfl⟩, by kernel_rfl⟩
instance : ZeroT Tryd.prog 55 [.int .i64 0, .slice none 0 0, .slice none 0 0, .slice none 0 0, .bool false, .int .i64 0, .bool false, .int .i64 0, .bool false, .int .i64 0] := ⟨by kernel_rfl⟩
instance : AggT Tryd.prog 46 2 := ⟨⟨_, Tryd.underlying46, rfl⟩, by kernel_rfl⟩
instance : ZeroT Tryd.prog 46 [.int .i64 0, .string ⟨#[]⟩] := ⟨by kernel_rfl⟩
instance : AggT Tryd.prog 52 2 := ⟨⟨_, Tryd.underlying52, rfl⟩, by kernel_rfl⟩
instance : AggT Tryd.prog 57 2 := ⟨⟨_, Tryd.underlying57, rfl⟩, by kernel_rfl⟩
instance : ZeroT Tryd.prog 57 [.int .i64 0, .int .i64 0] := ⟨by kernel_rfl⟩
instance : AggT Tryd.prog 25 2 := ⟨⟨_, Tryd.underlying25, rfl⟩, by kernel_rfl⟩
instance : ZeroT Tryd.prog 25 [.slice none 0 0, .slice none 0 0] := ⟨by kernel_rfl⟩
instance : AggT Tryd.prog 84 3 := ⟨⟨_, Tryd.underlying84, rfl⟩, by kernel_rfl⟩
instance : ZeroT Tryd.prog 84 [.int .i64 0, .int .i64 0, .string ⟨#[]⟩] := ⟨by kernel_rfl⟩
instance : AggT Tryd.prog 31 3 := ⟨⟨_, Tryd.underlying31, rfl⟩, by kernel_rfl⟩
instance : ZeroT Tryd.prog 31 [.slice none 0 0, .int .i64 0, .int .i64 0] := ⟨by kernel_rfl⟩
instance : AggT Tryd.prog 69 5 := ⟨⟨_, Tryd.underlying69, rfl⟩, by kernel_rfl⟩
instance : ZeroT Tryd.prog 69 [.int .i64 0, .int .i64 0, .int .i64 0, .slice none 0 0, .slice none 0 0] := ⟨by kernel_rfl⟩
instance : AggT Tryd.prog 66 2 := ⟨⟨_, Tryd.underlying66, rfl⟩, by kernel_rfl⟩
instance : OneT Tryd.prog 3 := ⟨⟨_, Tryd.underlying3, rfl⟩, by kernel_rfl⟩
instance : ZeroT Tryd.prog 3 [.int .i64 0] := ⟨by kernel_rfl⟩
instance : OneT Tryd.prog 4 := ⟨⟨_, Tryd.underlying4, rfl⟩, by kernel_rfl⟩
instance : ZeroT Tryd.prog 4 [.bool false] := ⟨by kernel_rfl⟩
instance : OneT Tryd.prog 9 := ⟨⟨_, Tryd.underlying9, rfl⟩, by kernel_rfl⟩
instance : ZeroT Tryd.prog 9 [.string ⟨#[]⟩] := ⟨by kernel_rfl⟩
instance : OneT Tryd.prog 26 := ⟨⟨_, Tryd.underlying26, rfl⟩, by kernel_rfl⟩
instance : OneT Tryd.prog 37 := ⟨⟨_, Tryd.underlying37, rfl⟩, by kernel_rfl⟩
instance : ZeroT Tryd.prog 37 [.slice none 0 0] := ⟨by kernel_rfl⟩
instance : OneT Tryd.prog 50 := ⟨⟨_, Tryd.underlying50, rfl⟩, by kernel_rfl⟩
instance : ZeroT Tryd.prog 50 [.slice none 0 0] := ⟨by kernel_rfl⟩
instance : OneT Tryd.prog 29 := ⟨⟨_, Tryd.underlying29, rfl⟩, by kernel_rfl⟩
instance : ZeroT Tryd.prog 29 [.slice none 0 0] := ⟨by kernel_rfl⟩
instance : OneT Tryd.prog 39 := ⟨⟨_, Tryd.underlying39, rfl⟩, by kernel_rfl⟩
instance : ZeroT Tryd.prog 39 [.slice none 0 0] := ⟨by kernel_rfl⟩
instance : OneT Tryd.prog 67 := ⟨⟨_, Tryd.underlying67, rfl⟩, by kernel_rfl⟩
instance : OneT Tryd.prog 22 := ⟨⟨_, Tryd.underlying22, rfl⟩, by kernel_rfl⟩
instance : ZeroT Tryd.prog 22 [.slice none 0 0] := ⟨by kernel_rfl⟩
instance : OneT Tryd.prog 23 := ⟨⟨_, Tryd.underlying23, rfl⟩, by kernel_rfl⟩
end Go.Proofs.YtjhmfljlclajnacDoor
namespace Wb
open Go Go.RowKit
def OwnM {α : Type} (f : α → List Value) (e : TypeId) (c : Nat) (v : Value) (l : List α) (M : List Ent) : Prop :=
 (v = .slice none 0 0 ∧ l = [] ∧ M = []) ∨ ∃ g cap rest, v = .slice (some ⟨g, 0, none⟩) l.length cap ∧ l.length ≤ cap ∧ cap ≤ maxLen ∧ (l.flatMap f ++ rest).length = cap * c ∧ M = [⟨g, l.flatMap f ++ rest, e⟩]
section
variable {α : Type} {f : α → List Value} {e : TypeId} {c : Nat} {v : Value} {l : List α} {M : List Ent} {S : List Nat} {w0 w w' : World} {L T : List Ent} {R : List Rd}
theorem OwnM.nil (f : α → List Value) (e : TypeId) (c : Nat) : OwnM f e c (.slice none 0 0) [] [] := .inl ⟨rfl, rfl, rfl⟩
theorem OwnM.form (h : OwnM f e c v l M) : ∃ a cap, v = .slice a l.length cap := by
 rcases h with ⟨rfl, rfl, _⟩ | ⟨g, cap, rest, rfl, _⟩
 ·exact ⟨none, 0, rfl⟩
 ·exact ⟨_, _, rfl⟩
theorem OwnM.reads (h : OwnM f e c v l M) (hb : ∀ x ∈ M, Blk w x.g x.cs.toArray x.t) : RL f w v l := by
 rcases h with ⟨rfl, rfl, rfl⟩ | ⟨g, cap, rest, rfl, h1, h2, h3, rfl⟩
 ·exact ⟨none, 0, rfl, Nat.le_refl _, by simp [maxLen], .inl rfl⟩
 ·have hk := hb _ (List.mem_singleton.2 rfl)
  refine ⟨_, cap, rfl, h1, h2, .inr ⟨g, 0, rfl, fun j u hj => ?_⟩⟩
  rw [hk.cell]
  have hlt : j < (l.flatMap f).length := (List.getElem?_eq_some_iff.1 hj).1
  rw [Nat.zero_add]
  simp only [List.getElem?_toArray]
  rw [List.getElem?_append_left hlt]; exact hj
theorem St.ownRd (X : St S w0 w (L ++ (M ++ T)) R) (h : OwnM f e c v l M) : RL f w v l := h.reads fun x hx => X.blk x (by simp [hx])
theorem St.sub {L2 : List Ent} (X : St S w0 w L R) (hs : L2.Sublist L) : St S w0 w L2 R :=
 ⟨X.mv, (hs.map _).nodup X.nd, fun x hx => X.blk x (hs.subset hx), fun x hx => X.own x (hs.subset hx), fun r hr => ⟨(X.rd r hr).1, (X.rd r hr).2.imp id fun h b hb x hx => h b hb x (hs.subset hx)⟩⟩
theorem St.ownEnd (X : St S w0 w (L ++ (M ++ T)) R) (h : OwnM f e c v l M) : St S w0 w (L ++ T) (Rd.of f v l :: R) := by
 have X2 : St S w0 w (L ++ T) R := X.sub (List.Sublist.append_left (List.sublist_append_right _ _) _)
 refine X2.addR (X.ownRd h) ?_
 rcases h with ⟨rfl, rfl, rfl⟩ | ⟨g, cap, rest, rfl, h1, h2, h3, rfl⟩
 ·exact .inl rfl
 ·refine .inr fun b hb x hx heq => ?_
  cases hb
  have hnd := X.nd
  simp only [List.map_append, List.map_cons, List.map_nil, List.nodup_append, List.nodup_cons, List.mem_append, List.mem_map, List.mem_singleton] at hnd
  obtain ⟨_, ⟨_, _, h5⟩, h6⟩ := hnd
  have heq2 : x.g = g := heq
  rcases List.mem_append.1 hx with hx | hx
  ·exact h6 x.g ⟨x, hx, rfl⟩ g (.inl (by simp)) heq2
  ·exact h5 g (by simp) x.g ⟨x, hx, rfl⟩ heq2.symm
theorem St.push_blk {w1 : World} {g g' : Nat} {cs cs' : List Value} (X : St S w0 w (L ++ ([⟨g, cs, e⟩] ++ T)) R) (hg : w.grownBy w1 (some g)) (hb : Blk w1 g' cs'.toArray e) (hg' : g' = g ∨ w.heap.size ≤ g') :
    St S w0 w1 (L ++ ([⟨g', cs', e⟩] ++ T)) R := by
 have hnd := X.nd
 simp only [List.map_append, List.map_cons, List.map_nil, List.nodup_append, List.nodup_cons, List.mem_append, List.mem_map, List.mem_singleton] at hnd
 obtain ⟨nL, ⟨_, nT, h5⟩, h6⟩ := hnd
 have ho := X.own ⟨g, cs, e⟩ (by simp)
 have hlt : ∀ x ∈ L ++ T, x.g < w.heap.size := fun x hx => (X.blk x (by rcases List.mem_append.1 hx with h | h <;> simp [h])).lt
 have hneL : ∀ x ∈ L, x.g ≠ g := fun x hx => h6 x.g ⟨x, hx, rfl⟩ g (.inl (by simp))
 have hneT : ∀ x ∈ T, x.g ≠ g := fun x hx heq => h5 g (by simp) x.g ⟨x, hx, rfl⟩ heq.symm
 have hne' : ∀ x ∈ L ++ T, x.g ≠ g' := fun x hx heq => by
  rcases hg' with rfl | hg'
  ·rcases List.mem_append.1 hx with h | h
   ·exact hneL x h heq
   ·exact hneT x h heq
  ·have := hlt x hx; omega
 have hm := Mv.ofGrown hg
 have hsz := X.mv.size
 have hR : ∀ r ∈ R, r.cs = [] ∨ ∀ b, vblk r.v = some b → b ≠ g := fun r hr => (X.rd r hr).2.imp id fun h b hb => (h b hb ⟨g, cs, e⟩ (by simp)).symm
 refine ⟨X.mv.then hm (fun k hk => ?_), ?_, fun x hx => ?_, fun x hx => ?_, fun r hr => ⟨(X.rd r hr).1.mv hm ((hR r hr).imp id fun h b hb => by simpa using h b hb), ?_⟩⟩
 ·obtain rfl : k = g := by simpa using hk
  exact ho
 ·simp only [List.map_append, List.map_cons, List.map_nil, List.nodup_append, List.nodup_cons, List.mem_append, List.mem_map, List.mem_singleton]
  refine ⟨nL, ⟨⟨by simp, List.nodup_nil⟩, nT, ?_⟩, ?_⟩
  ·rintro a rfl b ⟨x, hx, rfl⟩ heq
   exact hne' x (by simp [hx]) heq.symm
  ·rintro a ⟨x, hx, rfl⟩ b (rfl | ⟨y, hy, rfl⟩) heq
   ·exact hne' x (by simp [hx]) heq
   ·exact h6 x.g ⟨x, hx, rfl⟩ y.g (.inr ⟨y, hy, rfl⟩) heq
 ·rcases List.mem_append.1 hx with hx | hx
  ·exact (X.blk x (by simp [hx])).mv hm (by simpa using hneL x hx)
  ·rcases List.mem_append.1 hx with hx | hx
   ·obtain rfl := List.mem_singleton.1 hx; exact hb
   ·exact (X.blk x (by simp [hx])).mv hm (by simpa using hneT x hx)
 ·rcases List.mem_append.1 hx with hx | hx
  ·exact X.own x (by simp [hx])
  ·rcases List.mem_append.1 hx with hx | hx
   ·obtain rfl := List.mem_singleton.1 hx
    rcases hg' with rfl | hg'
    ·exact ho
    ·exact .inr (by show w0.heap.size ≤ g'; omega)
   ·exact X.own x (by simp [hx])
 ·rcases (X.rd r hr).2 with h | h
  ·exact .inl h
  ·rcases (X.rd r hr).1.lt with h2 | h2
   ·exact .inl h2
   refine .inr fun b hb x hx heq => ?_
   rcases List.mem_append.1 hx with hx | hx
   ·exact h b hb x (by simp [hx]) heq
   ·rcases List.mem_append.1 hx with hx | hx
    ·obtain rfl := List.mem_singleton.1 hx
     rcases hg' with rfl | hg'
     ·exact h b hb ⟨g', cs, e⟩ (by simp) heq
     ·have := h2 b hb
      have h3 : g' = b := heq
      omega
    ·exact h b hb x (by simp [hx]) heq
theorem St.perm {L2 : List Ent} (X : St S w0 w L R) (hp : L.Perm L2) : St S w0 w L2 R :=
 ⟨X.mv, (hp.map _).nodup_iff.1 X.nd, fun x hx => X.blk x (hp.mem_iff.2 hx), fun x hx => X.own x (hp.mem_iff.2 hx), fun r hr => ⟨(X.rd r hr).1, (X.rd r hr).2.imp id fun h b hb x hx => h b hb x (hp.mem_iff.2 hx)⟩⟩
theorem size_zeros (z : Array Value) (n : Nat) : (Builtin.zeroCells z n).size = n * z.size := by simp [Builtin.zeroCells]
theorem St.pushF {P : Program} (t ty : TypeId) (bytes : Nat) (hF : Flat f c) (hT : Elem P t e c bytes) (X : St S w0 w (L ++ (M ++ T)) R) (hO : OwnM f e c v l M)
    {vx : Value} (l2 : List α) (hs : RL f w vx l2) (hroom : l2.length * bytes ≤ 281474976710656) (hfit : ∀ old, old < l.length + l2.length → Builtin.nextslicecap (l.length + l2.length) old * bytes ≤ 281474976710656) (h63 : l.length + l2.length ≤ maxLen) :
    ∃ v' w' M', (Builtin.append_ #[t, t] ty #[v, vx]).run P w = .ok v' w' ∧ OwnM f e c v' (l ++ l2) M' ∧ St S w0 w' (L ++ (M' ++ T)) R := by
 obtain ⟨a, cx, rfl, x1, x2, x3⟩ := hs
 obtain ⟨ht, i, z, hi, hz, hsz, hby, hzs⟩ := hT
 subst hsz
 subst hby
 cases l2 with
 | nil =>
  refine ⟨v, w, M, ?_, by simpa using hO, X⟩
  rcases hO with ⟨rfl, rfl, rfl⟩ | ⟨g, cap, rest, rfl, h1, h2, h3, rfl⟩
  ·cases a <;> simp [Builtin.append_, run_underlying ht, Go.sizeOf, typeInfo, hi, Builtin.lenOf, Builtin.firstCells, loadCells, loadCellsFrom]
  ·cases a <;> simp [Builtin.append_, run_underlying ht, Go.sizeOf, typeInfo, hi, Builtin.lenOf, Builtin.firstCells, loadCells, loadCellsFrom, h1, storeCells]
 | cons y l2 =>
  have hfl := flat_len hF.len (y :: l2)
  rcases x3 with x3 | ⟨bx, off, rfl, hc⟩
  ·exfalso
   have h4 : 0 < (y :: l2).length * i.size := Nat.mul_pos (by simp) hF.pos
   rw [x3] at hfl; rw [← hfl] at h4
   simp at h4
  have hnews : ∀ j u, ((y :: l2).flatMap f)[j]? = some u → w.cell? ((⟨bx, off, none⟩ : Addr).add j) = some u := fun j u hj => by rw [Addr.add_lit]; exact hc j u hj
  have hone : ∀ u ∈ (y :: l2).flatMap f, u.oneCell' = true := fun u hu => by obtain ⟨x, _, hx⟩ := List.mem_flatMap.1 hu; exact hF.one x u hx
  have hpos : 0 < (y :: l2).length := by simp
  generalize hn : (y :: l2).length = m at *
  generalize hnw : (y :: l2).flatMap f = news at *
  have hlm : (l ++ y :: l2).length = l.length + m := by rw [List.length_append, hn]
  have hfm : (l ++ y :: l2).flatMap f = l.flatMap f ++ news := by rw [List.flatMap_append, hnw]
  have hll := flat_len hF.len l
  simp only [maxLen] at h63
  rcases hO with ⟨rfl, rfl, rfl⟩ | ⟨g, cap, rest, rfl, h1, h2, h3, rfl⟩
  ·have hr := run_append_nil (P := P) w t ty e i z ht hi hz ⟨bx, off, none⟩ m cx news hfl hnews (by omega) (by omega) hroom
   have hge := grownCap_ge w m 0 e
   have hcm : grownCap w m 0 e ≤ maxLen := grownCap_le_maxLen w m 0 e (by simp only [maxLen]; simp at h63; omega)
   refine ⟨_, _, [⟨w.heap.size, news ++ (Builtin.zeroCells z.cells (grownCap w m 0 e - m)).toList, e⟩], hr, .inr ⟨w.heap.size, grownCap w m 0 e, (Builtin.zeroCells z.cells (grownCap w m 0 e - m)).toList, by rw [hlm]; simp, by rw [hlm]; simpa using hge, hcm, ?_, by rw [hfm]; simp⟩, ?_⟩
   ·rw [hfm]
    simp only [List.flatMap_nil, List.nil_append, List.length_append, Array.length_toList, size_zeros, hzs, hfl, ← Nat.add_mul]
    congr 1; omega
   ·have X2 := (X.drew.alloc (news ++ (Builtin.zeroCells z.cells (grownCap w m 0 e - m)).toList) e)
    have X3 := X2.perm (L2 := L ++ ([⟨w.heap.size, news ++ (Builtin.zeroCells z.cells (grownCap w m 0 e - m)).toList, e⟩] ++ T)) (by
     simp only [List.nil_append, List.cons_append]
     exact (List.perm_middle).symm)
    have e1 : (news ++ (Builtin.zeroCells z.cells (grownCap w m 0 e - m)).toList).toArray = news.toArray ++ Builtin.zeroCells z.cells (grownCap w m 0 e - m) := by simp
    rw [e1] at X3
    exact X3
  ·have hb := X.blk ⟨g, l.flatMap f ++ rest, e⟩ (by simp)
   have htk : (l.flatMap f ++ rest).take (l.length * i.size) = l.flatMap f := by rw [← hll]; exact List.take_left
   by_cases hrm : l.length + m ≤ cap
   ·have hfit : l.length * i.size + news.length ≤ (l.flatMap f ++ rest).toArray.size := by
      rw [List.size_toArray, h3, hfl, ← Nat.add_mul]; exact Nat.mul_le_mul_right _ hrm
    have hr := run_append_room (P := P) w t ty e i ht hi g l.length cap _ hb ⟨bx, off, none⟩ m cx news hfl hnews hone hrm hfit
    have hdr : (l.flatMap f ++ rest).drop (l.length * i.size + news.length) = rest.drop news.length := by
     rw [← hll, ← List.drop_drop, List.drop_left]
    rw [List.toList_toArray, htk, hdr] at hr
    refine ⟨_, _, [⟨g, l.flatMap f ++ news ++ rest.drop news.length, e⟩], hr, .inr ⟨g, cap, rest.drop news.length, by rw [hlm], by rw [hlm]; exact hrm, h2, ?_, by rw [hfm]⟩, ?_⟩
    ·rw [hfm]
     simp only [List.length_append, List.length_drop] at h3 ⊢
     rw [List.size_toArray, List.length_append] at hfit
     rw [hll] at h3 ⊢
     omega
    ·refine X.push_blk ⟨rfl, rfl, rfl, by simp, fun k _ hk => setRow_other w g k _ (fun e => hk (by simp [e]))⟩ ?_ (.inl rfl)
     exact setRow_heap w g _ _ e _ hb
   ·have holds : ∀ j u, (l.flatMap f)[j]? = some u → w.cell? ((⟨g, 0, none⟩ : Addr).add j) = some u := fun j u hj => by
      rw [Addr.add_lit, Nat.zero_add, hb.cell]
      have hlt : j < (l.flatMap f).length := (List.getElem?_eq_some_iff.1 hj).1
      simp only [List.getElem?_toArray]
      rw [List.getElem?_append_left hlt]; exact hj
    have hr := run_append_grow (P := P) w t ty e i z ht hi hz ⟨g, 0, none⟩ l.length cap (l.flatMap f) hll holds ⟨bx, off, none⟩ m cx news hfl hnews (by omega) (by omega) (hfit cap (by omega))
    have hge := grownCap_ge w (l.length + m) cap e
    have hcm : grownCap w (l.length + m) cap e ≤ maxLen := grownCap_le_maxLen w (l.length + m) cap e (by simp only [maxLen]; omega)
    refine ⟨_, _, [⟨w.heap.size, l.flatMap f ++ news ++ (Builtin.zeroCells z.cells (grownCap w (l.length + m) cap e - (l.length + m))).toList, e⟩], hr, .inr ⟨w.heap.size, grownCap w (l.length + m) cap e, (Builtin.zeroCells z.cells (grownCap w (l.length + m) cap e - (l.length + m))).toList, by rw [hlm], by rw [hlm]; exact hge, hcm, ?_, by rw [hfm]⟩, ?_⟩
    ·rw [hfm]
     simp only [List.length_append, Array.length_toList, size_zeros, hzs, hfl, hll, ← Nat.add_mul]
     congr 1; omega
    ·have e1 : (l.flatMap f).toArray ++ news.toArray ++ Builtin.zeroCells z.cells (grownCap w (l.length + m) cap e - (l.length + m)) = (l.flatMap f ++ news ++ (Builtin.zeroCells z.cells (grownCap w (l.length + m) cap e - (l.length + m))).toList).toArray := by simp
     rw [e1]
     refine X.push_blk (w1 := w.drew.alloc _) ⟨rfl, rfl, rfl, by simp, fun k hk _ => heap_alloc_old w.drew _ hk⟩ ?_ (.inr (Nat.le_refl _))
     exact Blk.new w.drew _ _
theorem St.push {P : Program} (t ty : TypeId) (bytes : Nat) (hF : Flat f c) (hT : Elem P t e c bytes) (X : St S w0 w (L ++ (M ++ T)) R) (hO : OwnM f e c v l M)
    {vx : Value} (l2 : List α) (hs : RL f w vx l2) (hroom : (l.length + l2.length) * bytes ≤ 140737488355328) (h63 : l.length + l2.length ≤ maxLen) :
    ∃ v' w' M', (Builtin.append_ #[t, t] ty #[v, vx]).run P w = .ok v' w' ∧ OwnM f e c v' (l ++ l2) M' ∧ St S w0 w' (L ++ (M' ++ T)) R :=
 X.pushF t ty bytes hF hT hO l2 hs (Nat.le_trans (Nat.mul_le_mul_right _ (Nat.le_add_left _ _)) (Nat.le_trans hroom (by decide))) (fun _ h => growslice_fits h hroom) h63
theorem St.pushW {P : Program} (t ty : TypeId) (bytes : Nat) (hF : Flat f c) (hT : Elem P t e c bytes) (X : St S w0 w (L ++ (M ++ T)) R) (hO : OwnM f e c v l M)
    {vx : Value} (l2 : List α) (hs : RL f w vx l2) (hroom : (l.length + l2.length + (l.length + l2.length) / 4 + 192) * bytes ≤ 281474976710656) (h63 : l.length + l2.length ≤ maxLen) :
    ∃ v' w' M', (Builtin.append_ #[t, t] ty #[v, vx]).run P w = .ok v' w' ∧ OwnM f e c v' (l ++ l2) M' ∧ St S w0 w' (L ++ (M' ++ T)) R :=
 X.pushF t ty bytes hF hT hO l2 hs (Nat.le_trans (Nat.mul_le_mul_right _ (by omega)) hroom) (fun _ h => growslice_fits_wide h hroom) h63
end
section
variable {α : Type} {f : α → List Value} {e : TypeId} {c : Nat} {v : Value} {l : List α} {M : List Ent} {S : List Nat} {w0 w w' : World} {L T : List Ent} {R : List Rd}
theorem OwnM.fresh (h : OwnM f e c v l M) (X : St [] w0 w (L ++ (M ++ T)) R) : ∀ b, vblk v = some b → w0.heap.size ≤ b := fun b hb => by
 rcases h with ⟨rfl, rfl, rfl⟩ | ⟨g, cap, rest, rfl, h1, h2, h3, rfl⟩
 ·cases hb
 ·cases hb
  rcases X.own ⟨g, l.flatMap f ++ rest, e⟩ (by simp) with h | h
  ·cases h
  ·exact h
end
theorem fillAt (off : Nat) : ∀ (vs : List Value) (k : Nat) (cs : Array Value), off + k + vs.length ≤ cs.size → ((vs.zipIdx k).foldl (fun cs (x : Value × Nat) => cs.setIfInBounds (off + x.2) x.1) cs).toList = cs.toList.take (off + k) ++ vs ++ cs.toList.drop (off + k + vs.length)
 | [], k, cs, h => by simp
 | v :: vs, k, cs, h => by
  simp only [List.length_cons] at h
  rw [List.zipIdx_cons, List.foldl_cons, fillAt off vs (k + 1) _ (by simp; omega)]
  simp only [Array.toList_setIfInBounds, List.length_cons]
  have hl : cs.toList.length = cs.size := Array.length_toList
  rw [show off + (k + 1) = (off + k) + 1 by omega, List.take_succ_eq_append_getElem (i := off + k) (by simp [hl]; omega)]
  rw [List.take_set_of_le (by omega), List.getElem_set_self, List.drop_set_of_lt (by omega)]
  simp only [List.append_assoc, List.cons_append, List.nil_append]
  rw [show off + k + 1 + vs.length = off + k + (vs.length + 1) by omega]
section
variable {P : Program} {t e : TypeId} {c bytes : Nat} {w : World}
theorem run_build (hT : Elem P t e c bytes) (hc : 0 < c) (us : List (List Value)) (vs : List Value) (hv : vs.map (fun v => v.cells.toList) = us) (hs : ∀ u ∈ us, u.length = c) (hb : us.length * c ≤ 16777216) (hn : 0 < us.length) :
    (Instr.buildSlice t us.length (vs.zipIdx.map fun x => (x.2, x.1)).toArray).run P w = .ok (.slice (some ⟨w.heap.size, 0, none⟩) us.length us.length) (w.alloc (.cells us.flatten.toArray e)) := by
 obtain ⟨hu, i, z, hi, hz, hsz, _, hzc⟩ := hT
 have hmul : 0 < us.length * c := Nat.mul_pos hn hc
 have key : ∀ (vs : List Value) (k : Nat) (cs : Array Value), (∀ v ∈ vs, v.cells.toList.length = c) → cs.size = us.length * c → (k + vs.length) * c ≤ us.length * c →
     ∃ ds, Instr.fill (fun i => some (i * c, c)) cs ((vs.zipIdx k).map fun x => (x.2, x.1)) = some ds ∧ ds.toList = cs.toList.take (k * c) ++ (vs.map (fun v => v.cells.toList)).flatten ++ cs.toList.drop ((k + vs.length) * c) := by
  intro vs
  induction vs with
  | nil => intro k cs _ _ _; exact ⟨cs, rfl, by simp⟩
  | cons v vs ih =>
   intro k cs h1 h2 h3
   have hvc : v.cells.size = c := by have := h1 v (by simp); rwa [Array.length_toList] at this
   have h4 : (k + 1) * c ≤ us.length * c := Nat.le_trans (Nat.mul_le_mul_right _ (by simp)) h3
   have h5 : k * c + c = (k + 1) * c := (Nat.succ_mul k c).symm
   rw [List.zipIdx_cons, List.map_cons]
   unfold Instr.fill
   have hcond : (decide (v.cells.size ≠ c) || decide (k * c + v.cells.size > cs.size)) = false := by
    rw [hvc]; simp; omega
   dsimp only
   rw [if_neg (by rw [hcond]; decide)]
   have hf : (v.cells.zipIdx.foldl (fun cs (x : Value × Nat) => cs.setIfInBounds (k * c + x.2) x.1) cs).toList = cs.toList.take (k * c) ++ v.cells.toList ++ cs.toList.drop ((k + 1) * c) := by
    have := fillAt (k * c) v.cells.toList 0 cs (by rw [Array.length_toList, hvc]; omega)
    rw [Nat.add_zero, Array.length_toList, hvc, h5] at this
    rw [← this, ← Array.foldl_toList]
    simp
   obtain ⟨ds, hd1, hd2⟩ := ih (k + 1) (v.cells.zipIdx.foldl (fun cs (x : Value × Nat) => cs.setIfInBounds (k * c + x.2) x.1) cs) (fun u hu => h1 u (by simp [hu])) (by
    rw [← Array.length_toList, hf]; simp only [List.length_append, List.length_take, List.length_drop, Array.length_toList, hvc]; omega) (by rw [show k + 1 + vs.length = k + (vs.length + 1) by omega]; exact h3)
   refine ⟨ds, hd1, ?_⟩
   rw [hd2, hf]
   have hl1 : (cs.toList.take (k * c)).length = k * c := by rw [List.length_take, Array.length_toList]; omega
   have hl2 : (cs.toList.take (k * c) ++ v.cells.toList).length = (k + 1) * c := by rw [List.length_append, hl1, Array.length_toList, hvc, h5]
   rw [List.take_left' hl2, show (k + 1 + vs.length) * c = (k + 1) * c + vs.length * c by rw [Nat.add_mul], ← List.drop_drop, List.drop_left' hl2, List.drop_drop, List.map_cons, List.flatten_cons, List.length_cons]
   rw [show (k + (vs.length + 1)) * c = (k + 1) * c + vs.length * c by rw [← Nat.add_mul]; congr 1; omega]
   simp only [List.append_assoc]
 have hlen : vs.length = us.length := by rw [← hv, List.length_map]
 obtain ⟨ds, hd1, hd2⟩ := key vs 0 ((Array.range (us.length * c)).map (z.cells[· % z.cells.size]!)) (fun v hv' => hs _ (by rw [← hv]; exact List.mem_map_of_mem hv')) (by simp) (by rw [hlen]; simp)
 rw [hlen] at hd2
 have hds : ds = us.flatten.toArray := by
  apply Array.toList_inj.1
  rw [hd2, hv]
  simp
 have hso : (Go.sizeOf e).run P w = .ok c w := by simp [Go.sizeOf, typeInfo, hi, Sem.run_bind, Result.andThen_ok, Sem.run_pure, hsz]
 have hze : (zeroValue e).run P w = .ok z w := by simp [zeroValue, typeInfo, hi, hz, Sem.run_bind, Result.andThen_ok, Sem.run_pure]
 unfold Instr.buildSlice
 rw [Sem.run_bind, run_underlying hu, Result.andThen_ok]
 dsimp only
 rw [Sem.run_bind, hso, Result.andThen_ok]
 have e1 : ¬ us.length * c > 2 ^ 24 := by omega
 have e2 : ¬ us.length * c = 0 := by omega
 simp only [e1, e2, if_false, Sem.run_bind, hze, Result.andThen_ok, Sem.run_pure, List.toList_toArray]
 rw [hd1, hds]
 simp [newRow, newObj, Sem.run_bind, Result.andThen_ok, Sem.run_pure]
 rfl
end
class SlT (P : Program) (t : TypeId) (e : outParam TypeId) (c bytes : outParam Nat) : Prop where
 elem : Elem P t e c bytes
 pos : 0 < c
 low : 2 * c ≤ 16777216
 by_ : bytes ≤ 128
section
variable {P : Program} {ops : Array Oper} {Q : Exit → Act → World → Prop} {o : Oper} {rest : List Oper} {a : Act} {S : List Nat} {w0 w : World} {L pre T M : List Ent} {R : List Rd}
theorem exec_build1 {t e : TypeId} {c bytes : Nat} [hT : SlT P t e c bytes] {x : Operand} (ho : o.op = .buildSlice t 1 #[(0, x)]) {v : Value} (hx : EvR a x v) {cs : List Value} (hc : v.cells = cs.toArray) (hl : cs.length = c) :
    (execOp a.eval o).run P w = .ok (.value (.slice (some ⟨w.heap.size, 0, none⟩) 1 1)) (w.alloc (.cells cs.toArray e)) := by
 have hr := run_build (w := w) hT.elem hT.pos [cs] [v] (by simp [hc]) (by simpa using hl) (by have := hT.low; simp; omega) (by simp)
 simp at hr
 unfold execOp
 simp [ho, hx.eval, hr]
def isBuild : Op → Bool
 | .buildSlice _ _ _ => true
 | _ => false
theorem at_build (_ : isBuild o.op = true) (h : wpList P ops Q (o :: rest) a w) : wpList P ops Q (o :: rest) a w := h
theorem m_build1 (hw : Region.wanted o (yielded ops a.tmps) = true) {t e : TypeId} {c bytes : Nat} {x : Operand} (ho : o.op = .buildSlice t 1 #[(0, x)]) [hT : SlT P t e c bytes] {v : Value} (hx : EvR a x v) {cs : List Value} (hc : v.cells = cs.toArray) (hl : cs.length = c) (X : St S w0 w L R)
    (h : ∀ g w', St S w0 w' (⟨g, cs, e⟩ :: L) R → wpList P ops Q rest (a.put o.dst (.slice (some ⟨g, 0, none⟩) 1 1)) w') : wpList P ops Q (o :: rest) a w :=
 BigFrame.wpList_want hw fun K hK => by
  unfold Oper.wp
  rw [exec_build1 ho hx hc hl]
  exact hK _ _ (h _ _ (X.alloc cs e))
theorem exec_app {α : Type} {f : α → List Value} {t e : TypeId} {c bytes : Nat} [hT : SlT P t e c bytes] {s x : Operand} (ho : o.op = .call { callee := .builtin .append, args := #[s, x], argTypes := #[t, t] }) (hF : Flat f c)
    (X : St S w0 w (pre ++ (M ++ T)) R) {v vx : Value} {l : List α} (hO : OwnM f e c v l M) (hs : EvR a s v) (l2 : List α) (hx : EvR a x vx) (hr : RL f w vx l2) (hroom : (l.length + l2.length + (l.length + l2.length) / 4 + 192) * bytes ≤ 281474976710656) (h63 : l.length + l2.length ≤ maxLen) :
    ∃ v' w' M', (execOp a.eval o).run P w = .ok (.value v') w' ∧ OwnM f e c v' (l ++ l2) M' ∧ St S w0 w' (pre ++ (M' ++ T)) R := by
 obtain ⟨v', w', M', h1, h2, h3⟩ := X.pushW (P := P) t o.type bytes hF hT.elem hO l2 hr hroom h63
 refine ⟨v', w', M', ?_, h2, h3⟩
 unfold execOp
 simp only [ho, resolve, invoke, builtin, Sem.run_bind, Sem.run_pure, Result.andThen_ok, List.map_toArray, List.map_cons, List.map_nil, hs.eval, hx.eval, h1]
theorem St.rd0 {g n cap : Nat} {cs : List Value} {t : TypeId} {α : Type} {f : α → List Value} {l2 : List α} (X : St S w0 w (⟨g, cs, t⟩ :: L) R) (hc : l2.flatMap f = cs) (hn : l2.length = n) (h1 : n ≤ cap) (h2 : cap ≤ maxLen) : RL f w (.slice (some ⟨g, 0, none⟩) n cap) l2 := by
 subst hc; subst hn
 exact ⟨_, _, rfl, h1, h2, .inr ⟨g, 0, rfl, fun j u hj => by rw [Nat.zero_add, X.k0.cell]; simpa using hj⟩⟩
theorem St.tail {x : Ent} (X : St S w0 w (x :: L) R) : St S w0 w L R := X.sub (List.sublist_cons_self _ _)
theorem m_appB (pre : List Ent) (hw : Region.wanted o (yielded ops a.tmps) = true) {s x : Operand} {t : TypeId} (ho : o.op = .call { callee := .builtin .append, args := #[s, x], argTypes := #[t, t] }) {α : Type} {f : α → List Value} (l2 : List α) {e : TypeId} {c bytes : Nat} [hT : SlT P t e c bytes] (hF : Flat f c)
    {g n : Nat} {cs : List Value} {te : TypeId} (X : St S w0 w (⟨g, cs, te⟩ :: (pre ++ (M ++ T))) R) {v : Value} {l : List α} (hO : OwnM f e c v l M) (hs : EvR a s v) (hx : EvR a x (.slice (some ⟨g, 0, none⟩) n n)) (hc : l2.flatMap f = cs) (hn : l2.length = n) (hroom : (l.length + n + (l.length + n) / 4 + 192) * bytes ≤ 281474976710656) (h63 : l.length + n ≤ 140737488355328)
    (h : ∀ a' cap' w' M', OwnM f e c (.slice a' (l.length + n) cap') (l ++ l2) M' → St S w0 w' (pre ++ (M' ++ T)) R → wpList P ops Q rest (a.put o.dst (.slice a' (l.length + n) cap')) w') : wpList P ops Q (o :: rest) a w :=
 BigFrame.wpList_want hw fun K hK => by
  obtain ⟨v', w', M', h1, h2, h3⟩ := exec_app (P := P) ho hF X.tail hO hs l2 hx (X.rd0 hc hn (Nat.le_refl _) (by unfold maxLen; omega)) (by rw [hn]; exact hroom) (by rw [hn]; unfold maxLen; omega)
  obtain ⟨a', cap', rfl⟩ := h2.form
  have hl : (l ++ l2).length = l.length + n := by rw [List.length_append, hn]
  rw [hl] at h1 h2
  unfold Oper.wp
  rw [h1]
  exact hK _ _ (h a' cap' w' M' h2 h3)
theorem roomB {k n bytes : Nat} (h : k + n ≤ 1099511627776) (hb : bytes ≤ 128) : (k + n + (k + n) / 4 + 192) * bytes ≤ 281474976710656 ∧ k + n ≤ 140737488355328 :=
 ⟨Nat.le_trans (Nat.mul_le_mul (show k + n + (k + n) / 4 + 192 ≤ 1374389534912 by omega) hb) (by decide), by omega⟩
theorem m_app (pre : List Ent) (hw : Region.wanted o (yielded ops a.tmps) = true) {s x : Operand} {t : TypeId} (ho : o.op = .call { callee := .builtin .append, args := #[s, x], argTypes := #[t, t] }) {α : Type} {f : α → List Value} (l2 : List α) {e : TypeId} {c bytes : Nat} [hT : SlT P t e c bytes] (hF : Flat f c)
    {g n : Nat} {cs : List Value} {te : TypeId} (X : St S w0 w (⟨g, cs, te⟩ :: (pre ++ (M ++ T))) R) {v : Value} {l : List α} (hO : OwnM f e c v l M) (hs : EvR a s v) (hx : EvR a x (.slice (some ⟨g, 0, none⟩) n n)) (hc : l2.flatMap f = cs) (hn : l2.length = n) (h40 : l.length + n ≤ 1099511627776)
    (h : ∀ a' cap' w' M', OwnM f e c (.slice a' (l.length + n) cap') (l ++ l2) M' → St S w0 w' (pre ++ (M' ++ T)) R → wpList P ops Q rest (a.put o.dst (.slice a' (l.length + n) cap')) w') : wpList P ops Q (o :: rest) a w :=
 m_appB pre hw ho l2 hF X hO hs hx hc hn (roomB h40 hT.by_).1 (roomB h40 hT.by_).2 h
end
section
variable {P : Program} {ops : Array Oper} {Q : Exit → Act → World → Prop} {L0 : List Ent} {R0 : List Rd} {brk eff lds : List Nat} {i : Nat} {r : List Nat} {o : Oper} {a : Act} {S : List Nat} {w0 w : World} {L M T : List Ent} {R : List Rd}
theorem q_build1 {t e : TypeId} {c bytes : Nat} {x : Operand} (hi : oAt ops i = some o) (ho : o.op = .buildSlice t 1 #[(0, x)]) [hT : SlT P t e c bytes] {v : Value} (hx : EvR a x v) {cs : List Value} (hc : v.cells = cs.toArray) (hl : cs.length = c) (X : St S w0 w L R) (hL : Under L0 R0 L R) (he : eff.contains i = true) (hw : Region.wanted o (yielded ops a.tmps) = true)
    (h : ∀ g w', St S w0 w' (⟨g, cs, e⟩ :: L) R → Under L0 R0 (⟨g, cs, e⟩ :: L) R → SQ P ops Q L0 R0 brk eff lds r (a.put o.dst (.slice (some ⟨g, 0, none⟩) 1 1)) w') : SQ P ops Q L0 R0 brk eff lds (i :: r) a w :=
 q_eff hi he hw fun K hk => by
  have hL' : Under L0 R0 ((⟨w.heap.size, cs, e⟩ : Ent) :: L) R := ⟨hL.l.cons _, hL.r⟩
  unfold Oper.wp
  rw [exec_build1 ho hx hc hl]
  exact hk _ _ (fun _ _ => (X.alloc cs e).keeps hL') (h _ _ (X.alloc cs e) hL')
theorem q_appB (pre : List Ent) {s x : Operand} {t : TypeId} (hi : oAt ops i = some o) (ho : o.op = .call { callee := .builtin .append, args := #[s, x], argTypes := #[t, t] }) {α : Type} {f : α → List Value} (l2 : List α) {e : TypeId} {c bytes : Nat} [hT : SlT P t e c bytes] (hF : Flat f c)
    {g n : Nat} {cs : List Value} {te : TypeId} (X : St S w0 w (⟨g, cs, te⟩ :: (pre ++ (M ++ T))) R) {v : Value} {l : List α} (hO : OwnM f e c v l M) (hs : EvR a s v) (hx : EvR a x (.slice (some ⟨g, 0, none⟩) n n)) (hc : l2.flatMap f = cs) (hn : l2.length = n) (hroom : (l.length + n + (l.length + n) / 4 + 192) * bytes ≤ 281474976710656) (h63 : l.length + n ≤ 140737488355328)
    (hL : Under L0 R0 (⟨g, cs, te⟩ :: (pre ++ (M ++ T))) R) (hA : L0.Sublist pre) (he : eff.contains i = true) (hw : Region.wanted o (yielded ops a.tmps) = true)
    (h : ∀ a' cap' w' M', OwnM f e c (.slice a' (l.length + n) cap') (l ++ l2) M' → St S w0 w' (pre ++ (M' ++ T)) R → Under L0 R0 (pre ++ (M' ++ T)) R → SQ P ops Q L0 R0 brk eff lds r (a.put o.dst (.slice a' (l.length + n) cap')) w') : SQ P ops Q L0 R0 brk eff lds (i :: r) a w :=
 q_eff hi he hw fun K hk => by
  obtain ⟨v', w', M', h1, h2, h3⟩ := exec_app (P := P) ho hF X.tail hO hs l2 hx (X.rd0 hc hn (Nat.le_refl _) (by unfold maxLen; omega)) (by rw [hn]; exact hroom) (by rw [hn]; unfold maxLen; omega)
  obtain ⟨a', cap', rfl⟩ := h2.form
  have hl : (l ++ l2).length = l.length + n := by rw [List.length_append, hn]
  rw [hl] at h1 h2
  have hL' : Under L0 R0 (pre ++ (M' ++ T)) R := ⟨hA.trans (List.sublist_append_left _ _), hL.r⟩
  unfold Oper.wp
  rw [h1]
  exact hk _ _ (fun _ _ => h3.keeps hL') (h a' cap' w' M' h2 h3 hL')
theorem q_app (pre : List Ent) {s x : Operand} {t : TypeId} (hi : oAt ops i = some o) (ho : o.op = .call { callee := .builtin .append, args := #[s, x], argTypes := #[t, t] }) {α : Type} {f : α → List Value} (l2 : List α) {e : TypeId} {c bytes : Nat} [hT : SlT P t e c bytes] (hF : Flat f c)
    {g n : Nat} {cs : List Value} {te : TypeId} (X : St S w0 w (⟨g, cs, te⟩ :: (pre ++ (M ++ T))) R) {v : Value} {l : List α} (hO : OwnM f e c v l M) (hs : EvR a s v) (hx : EvR a x (.slice (some ⟨g, 0, none⟩) n n)) (hc : l2.flatMap f = cs) (hn : l2.length = n) (h40 : l.length + n ≤ 1099511627776)
    (hL : Under L0 R0 (⟨g, cs, te⟩ :: (pre ++ (M ++ T))) R) (hA : L0.Sublist pre) (he : eff.contains i = true) (hw : Region.wanted o (yielded ops a.tmps) = true)
    (h : ∀ a' cap' w' M', OwnM f e c (.slice a' (l.length + n) cap') (l ++ l2) M' → St S w0 w' (pre ++ (M' ++ T)) R → Under L0 R0 (pre ++ (M' ++ T)) R → SQ P ops Q L0 R0 brk eff lds r (a.put o.dst (.slice a' (l.length + n) cap')) w') : SQ P ops Q L0 R0 brk eff lds (i :: r) a w :=
 q_appB pre hi ho l2 hF X hO hs hx hc hn (roomB h40 hT.by_).1 (roomB h40 hT.by_).2 hL hA he hw h
end
abbrev flR (g : Nat) : Rd := ⟨.slice (some ⟨g, 0, none⟩) 1 1, 1, [.int .i64 2, .int .i64 0, .string ⟨#[]⟩]⟩
section
variable {P : Program} {ops : Array Oper} {Q : Exit → Act → World → Prop} {o : Oper} {rest : List Oper} {a : Act} {S : List Nat} {w0 w : World} {L : List Ent} {R : List Rd}
theorem run_rd0 {T : TypeId} {n : Nat} [hT : AggT P T n] {g cap k : Nat} {cs : List Value} (hs : Sl w (.slice (some ⟨g, 0, none⟩) k cap) k cs) (hn : cs.length = n) : (loadVar T ⟨g, 0, none⟩).run P w = .ok (.agg cs.toArray) w := by
 obtain ⟨⟨d, hu, hd⟩, hz⟩ := hT
 obtain ⟨a, c, hv, _, _, h3⟩ := hs
 refine run_loadVar_mid w g 0 T cs d (fun j v hj => ?_) hu hd (by rw [hz, hn])
 rcases h3 with h3 | ⟨b, off, ha, hc⟩
 ·rw [h3] at hj; cases hj
 ·cases hv; cases ha
  exact hc j v hj
theorem m_rd0 (hw : Region.wanted o (yielded ops a.tmps) = true) {T : TypeId} {x : Operand} (ho : o.op = .load T x) {g : Nat} (hx : a.eval x = .pointer (some ⟨g, 0, none⟩)) {n : Nat} [hT : AggT P T n] (X : St S w0 w L R)
    {cap k : Nat} {cs : List Value} (hR : ⟨.slice (some ⟨g, 0, none⟩) k cap, k, cs⟩ ∈ R) (hn : cs.length = n) (h : wpList P ops Q rest (a.put o.dst (.agg cs.toArray)) w) : wpList P ops Q (o :: rest) a w :=
 BigFrame.wpList_want hw fun K hK => by
  unfold Oper.wp execOp
  simp only [ho, hx, Instr.loadAt, Instr.sureAddr, Sem.run_bind, Sem.run_pure, Result.andThen_ok, run_rd0 (T := T) (X.rd _ hR).1 hn]
  exact hK _ _ h
end
section
variable {P : Program} {ops : Array Oper} {Q : Exit → Act → World → Prop} {L0 : List Ent} {R0 : List Rd} {brk eff lds : List Nat} {i : Nat} {r : List Nat} {o : Oper} {a : Act} {S : List Nat} {w0 w : World} {L M T : List Ent} {R : List Rd}
theorem q_rd0 {x : Operand} {T : TypeId} {g n : Nat} (hi : oAt ops i = some o) (ho : o.op = .load T x) (hx : a.eval x = .pointer (some ⟨g, 0, none⟩)) [hT : AggT P T n] {cap k : Nat} {cs : List Value} (hR : ⟨.slice (some ⟨g, 0, none⟩) k cap, k, cs⟩ ∈ R0) (hn : cs.length = n)
    (he : (!eff.contains i && lds.contains i) = true) (hw : Region.wanted o (yielded ops a.tmps) = true) (X : St S w0 w L R) (hL : Under L0 R0 L R) (hQ : NoLook Q)
    (h : SQ P ops Q L0 R0 brk eff lds r (a.put o.dst (.agg cs.toArray)) w) : SQ P ops Q L0 R0 brk eff lds (i :: r) a w :=
 q_read hi he hw X hL hQ (fun w' hw' => by
  unfold execOp
  simp only [ho, hx, Instr.loadAt, Instr.sureAddr, Sem.run_bind, Sem.run_pure, Result.andThen_ok, run_rd0 (T := T) (hw'.r _ hR) hn]) h
theorem q_cell0 {x : Operand} {T : TypeId} {b j : Nat} (hi : oAt ops i = some o) (ho : o.op = .load T x) (hx : EvR a x (.pointer (some ⟨b, j, none⟩))) [OneT P T] {cap k k' : Nat} {cs : List Value} (hR : ⟨.slice (some ⟨b, 0, none⟩) k' cap, k, cs⟩ ∈ R0) {v : Value} (hv : cs[j]? = some v)
    (he : (!eff.contains i && lds.contains i) = true) (hw : Region.wanted o (yielded ops a.tmps) = true) (X : St S w0 w L R) (hL : Under L0 R0 L R) (hQ : NoLook Q)
    (h : SQ P ops Q L0 R0 brk eff lds r (a.put o.dst v) w) : SQ P ops Q L0 R0 brk eff lds (i :: r) a w :=
 q_read hi he hw X hL hQ (fun w' hw' => by
  have hc : w'.cell? ⟨b, j, none⟩ = some v := by
   obtain ⟨ad, c, hv2, _, _, h3⟩ := hw'.r _ hR
   rcases h3 with h3 | ⟨b2, off, ha, hc⟩
   ·have h3' : cs = [] := h3
    rw [h3'] at hv; cases hv
   ·simp only [Value.slice.injEq] at hv2
    obtain ⟨rfl, _, _⟩ := hv2
    cases ha
    have := hc j v hv
    rwa [Nat.zero_add] at this
  unfold execOp
  simp only [ho, hx.eval, Instr.loadAt, Instr.sureAddr, Sem.run_bind, Sem.run_pure, Result.andThen_ok, run_loadOne (T := T) hc]) h
end
end Wb
