/- Parts of the proof: Bld OwnTy Rdx Rdt Slot DskN JrP Ty Fld Want AppO Jk JwA JwB. -/
import Derived.Test.YtjhmfljlclajnadGreatDoorKTopOrdered3
import Derived.Deep.DeepCutAuto
set_option linter.unusedVariables false
set_option linter.unusedSimpArgs false
set_option maxRecDepth 100000
set_option maxHeartbeats 40000000
namespace Wb
open Go Go.RowKit
theorem fillAt (off : Nat) : ∀ (vs : List Value) (k : Nat) (cs : Array Value), off + k + vs.length <= cs.size -> ((vs.zipIdx k).foldl (fun cs (x : Value × Nat) => cs.setIfInBounds (off + x.2) x.1) cs).toList = cs.toList.take (off + k) ++ vs ++ cs.toList.drop (off + k + vs.length)
 | [], k, cs, h => by simp
 | v :: vs, k, cs, h => by
  simp only [List.length_cons] at h
  rw [List.zipIdx_cons, List.foldl_cons, fillAt off vs (k + 1) _ (by simp; omega)]
  simp only [Array.toList_setIfInBounds, List.length_cons]
  have hl : cs.toList.length = cs.size := Array.length_toList
  rw [show off + (k + 1) = (off + k) + 1 by omega, List.take_succ_eq_append_getElem (i := off + k) (by simp [hl]; omega)]
  rw [List.take_set_of_le (by omega), List.getElem_set_self, List.drop_set_of_lt (by omega)]
  simp only [List.append_assoc, List.cons_append, List.nil_append]
  rw [show off + k + 1 + vs.length = off + k + (vs.length + 1) by omega]
section
variable {P : Program} {t e : TypeId} {c bytes : Nat} {w : World}
theorem run_build (hT : Elem P t e c bytes) (hc : 0 < c) (us : List (List Value)) (vs : List Value) (hv : vs.map (fun v => v.cells.toList) = us) (hs : ∀ u ∈ us, u.length = c) (hb : us.length * c <= 16777216) (hn : 0 < us.length) :
    (Instr.buildSlice t us.length (vs.zipIdx.map fun x => (x.2, x.1)).toArray).run P w = .ok (.slice (some ⟨w.heap.size, 0, none⟩) us.length us.length) (w.alloc (.cells us.flatten.toArray e)) := by
 obtain ⟨hu, i, z, hi, hz, hsz, _, hzc⟩ := hT
 have hmul : 0 < us.length * c := Nat.mul_pos hn hc
 have key : ∀ (vs : List Value) (k : Nat) (cs : Array Value), (∀ v ∈ vs, v.cells.toList.length = c) -> cs.size = us.length * c -> (k + vs.length) * c <= us.length * c ->
     ∃ ds, Instr.fill (fun i => some (i * c, c)) cs ((vs.zipIdx k).map fun x => (x.2, x.1)) = some ds /\ ds.toList = cs.toList.take (k * c) ++ (vs.map (fun v => v.cells.toList)).flatten ++ cs.toList.drop ((k + vs.length) * c) := by
  intro vs
  induction vs with
  | nil => intro k cs _ _ _; exact ⟨cs, rfl, by simp⟩
  | cons v vs ih =>
   intro k cs h1 h2 h3
   have hvc : v.cells.size = c := by have := h1 v (by simp); rwa [Array.length_toList] at this
   have h4 : (k + 1) * c <= us.length * c := Nat.le_trans (Nat.mul_le_mul_right _ (by simp)) h3
   have h5 : k * c + c = (k + 1) * c := (Nat.succ_mul k c).symm
   rw [List.zipIdx_cons, List.map_cons]
   unfold Instr.fill
   have hcond : (decide (v.cells.size ≠ c) || decide (k * c + v.cells.size > cs.size)) = false := by
    rw [hvc]; simp; omega
   dsimp only
   rw [if_neg (by rw [hcond]; decide)]
   have hf : (v.cells.zipIdx.foldl (fun cs (x : Value × Nat) => cs.setIfInBounds (k * c + x.2) x.1) cs).toList = cs.toList.take (k * c) ++ v.cells.toList ++ cs.toList.drop ((k + 1) * c) := by
    have := fillAt (k * c) v.cells.toList 0 cs (by rw [Array.length_toList, hvc]; omega)
    rw [Nat.add_zero, Array.length_toList, hvc, h5] at this
    rw [<- this, <- Array.foldl_toList]
    simp
   obtain ⟨ds, hd1, hd2⟩ := ih (k + 1) (v.cells.zipIdx.foldl (fun cs (x : Value × Nat) => cs.setIfInBounds (k * c + x.2) x.1) cs) (fun u hu => h1 u (by simp [hu])) (by
    rw [<- Array.length_toList, hf]; simp only [List.length_append, List.length_take, List.length_drop, Array.length_toList, hvc]; omega) (by rw [show k + 1 + vs.length = k + (vs.length + 1) by omega]; exact h3)
   refine ⟨ds, hd1, ?_⟩
   rw [hd2, hf]
   have hl1 : (cs.toList.take (k * c)).length = k * c := by rw [List.length_take, Array.length_toList]; omega
   have hl2 : (cs.toList.take (k * c) ++ v.cells.toList).length = (k + 1) * c := by rw [List.length_append, hl1, Array.length_toList, hvc, h5]
   rw [List.take_left' hl2, show (k + 1 + vs.length) * c = (k + 1) * c + vs.length * c by rw [Nat.add_mul], <- List.drop_drop, List.drop_left' hl2, List.drop_drop, List.map_cons, List.flatten_cons, List.length_cons]
   rw [show (k + (vs.length + 1)) * c = (k + 1) * c + vs.length * c by rw [<- Nat.add_mul]; congr 1; omega]
   simp only [List.append_assoc]
 have hlen : vs.length = us.length := by rw [<- hv, List.length_map]
 obtain ⟨ds, hd1, hd2⟩ := key vs 0 ((Array.range (us.length * c)).map (z.cells[· % z.cells.size]!)) (fun v hv' => hs _ (by rw [<- hv]; exact List.mem_map_of_mem hv')) (by simp) (by rw [hlen]; simp)
 rw [hlen] at hd2
 have hds : ds = us.flatten.toArray := by
  apply Array.toList_inj.1
  rw [hd2, hv]
  simp
 have hso : (Go.sizeOf e).run P w = .ok c w := by simp [Go.sizeOf, typeInfo, hi, Sem.run_bind, Result.andThen_ok, Sem.run_pure, hsz]
 have hze : (zeroValue e).run P w = .ok z w := by simp [zeroValue, typeInfo, hi, hz, Sem.run_bind, Result.andThen_ok, Sem.run_pure]
 unfold Instr.buildSlice
 rw [Sem.run_bind, run_underlying hu, Result.andThen_ok]
 dsimp only
 rw [Sem.run_bind, hso, Result.andThen_ok]
 have e1 : ¬ us.length * c > 2 ^ 24 := by omega
 have e2 : ¬ us.length * c = 0 := by omega
 simp only [e1, e2, if_false, Sem.run_bind, hze, Result.andThen_ok, Sem.run_pure, List.toList_toArray]
 rw [hd1, hds]
 simp [newRow, newObj, Sem.run_bind, Result.andThen_ok, Sem.run_pure]
 rfl
end
class SlT (P : Program) (t : TypeId) (e : outParam TypeId) (c bytes : outParam Nat) : Prop where
 elem : Elem P t e c bytes
 pos : 0 < c
 low : 2 * c <= 16777216
 by_ : bytes <= 128
section
variable {P : Program} {ops : Array Oper} {Q : Exit -> Act -> World -> Prop} {o : Oper} {rest : List Oper} {a : Act} {S : List Nat} {w0 w : World} {L pre T M : List Ent} {R : List Rd}
theorem exec_build1 {t e : TypeId} {c bytes : Nat} [hT : SlT P t e c bytes] {x : Operand} (ho : o.op = .buildSlice t 1 #[(0, x)]) {v : Value} (hx : EvR a x v) {cs : List Value} (hc : v.cells = cs.toArray) (hl : cs.length = c) :
    (execOp a.eval o).run P w = .ok (.value (.slice (some ⟨w.heap.size, 0, none⟩) 1 1)) (w.alloc (.cells cs.toArray e)) := by
 have hr := run_build (w := w) hT.elem hT.pos [cs] [v] (by simp [hc]) (by simpa using hl) (by have := hT.low; simp; omega) (by simp)
 simp at hr
 unfold execOp
 simp [ho, hx.eval, hr]
theorem exec_build2 {t e : TypeId} {c bytes : Nat} [hT : SlT P t e c bytes] {x y : Operand} (ho : o.op = .buildSlice t 2 #[(0, x), (1, y)]) {v u : Value} (hx : EvR a x v) (hy : EvR a y u) {cs ds : List Value} (hc : v.cells = cs.toArray) (hd : u.cells = ds.toArray) (hl : cs.length = c) (hl2 : ds.length = c) :
    (execOp a.eval o).run P w = .ok (.value (.slice (some ⟨w.heap.size, 0, none⟩) 2 2)) (w.alloc (.cells (cs ++ ds).toArray e)) := by
 have hr := run_build (w := w) hT.elem hT.pos [cs, ds] [v, u] (by simp [hc, hd]) (by simp [hl, hl2]) (by have := hT.low; simp; omega) (by simp)
 simp at hr
 unfold execOp
 simp [ho, hx.eval, hy.eval, hr]
def isBuild : Op -> Bool
 | .buildSlice _ _ _ => true
 | _ => false
theorem at_build (_ : isBuild o.op = true) (h : wpList P ops Q (o :: rest) a w) : wpList P ops Q (o :: rest) a w := h
theorem m_build1 (hw : Region.wanted o (yielded ops a.tmps) = true) {t e : TypeId} {c bytes : Nat} {x : Operand} (ho : o.op = .buildSlice t 1 #[(0, x)]) [hT : SlT P t e c bytes] {v : Value} (hx : EvR a x v) {cs : List Value} (hc : v.cells = cs.toArray) (hl : cs.length = c) (X : St S w0 w L R)
    (h : ∀ g w', St S w0 w' (⟨g, cs, e⟩ :: L) R -> wpList P ops Q rest (a.put o.dst (.slice (some ⟨g, 0, none⟩) 1 1)) w') : wpList P ops Q (o :: rest) a w :=
 BigFrame.wpList_want hw fun K hK => by
  unfold Oper.wp
  rw [exec_build1 ho hx hc hl]
  exact hK _ _ (h _ _ (X.alloc cs e))
theorem exec_app {α : Type} {f : α -> List Value} {t e : TypeId} {c bytes : Nat} [hT : SlT P t e c bytes] {s x : Operand} (ho : o.op = .call { callee := .builtin .append, args := #[s, x], argTypes := #[t, t] }) (hF : Flat f c)
    (X : St S w0 w (pre ++ (M ++ T)) R) {v vx : Value} {l : List α} (hO : OwnM f e c v l M) (hs : EvR a s v) (l2 : List α) (hx : EvR a x vx) (hr : RL f w vx l2) (hroom : (l.length + l2.length + (l.length + l2.length) / 4 + 192) * bytes <= 281474976710656) (h63 : l.length + l2.length <= maxLen) :
    ∃ v' w' M', (execOp a.eval o).run P w = .ok (.value v') w' /\ OwnM f e c v' (l ++ l2) M' /\ St S w0 w' (pre ++ (M' ++ T)) R := by
 obtain ⟨v', w', M', h1, h2, h3⟩ := X.pushW (P := P) t o.type bytes hF hT.elem hO l2 hr hroom h63
 refine ⟨v', w', M', ?_, h2, h3⟩
 unfold execOp
 simp only [ho, resolve, invoke, builtin, Sem.run_bind, Sem.run_pure, Result.andThen_ok, List.map_toArray, List.map_cons, List.map_nil, hs.eval, hx.eval, h1]
theorem St.rd0 {g n cap : Nat} {cs : List Value} {t : TypeId} {α : Type} {f : α -> List Value} {l2 : List α} (X : St S w0 w (⟨g, cs, t⟩ :: L) R) (hc : l2.flatMap f = cs) (hn : l2.length = n) (h1 : n <= cap) (h2 : cap <= maxLen) : RL f w (.slice (some ⟨g, 0, none⟩) n cap) l2 := by
 subst hc; subst hn
 exact ⟨_, _, rfl, h1, h2, .inr ⟨g, 0, rfl, fun j u hj => by rw [Nat.zero_add, X.k0.cell]; simpa using hj⟩⟩
theorem St.tail {x : Ent} (X : St S w0 w (x :: L) R) : St S w0 w L R := X.sub (List.sublist_cons_self _ _)
theorem m_appB (pre : List Ent) (hw : Region.wanted o (yielded ops a.tmps) = true) {s x : Operand} {t : TypeId} (ho : o.op = .call { callee := .builtin .append, args := #[s, x], argTypes := #[t, t] }) {α : Type} {f : α -> List Value} (l2 : List α) {e : TypeId} {c bytes : Nat} [hT : SlT P t e c bytes] (hF : Flat f c)
    {g n : Nat} {cs : List Value} {te : TypeId} (X : St S w0 w (⟨g, cs, te⟩ :: (pre ++ (M ++ T))) R) {v : Value} {l : List α} (hO : OwnM f e c v l M) (hs : EvR a s v) (hx : EvR a x (.slice (some ⟨g, 0, none⟩) n n)) (hc : l2.flatMap f = cs) (hn : l2.length = n) (hroom : (l.length + n + (l.length + n) / 4 + 192) * bytes <= 281474976710656) (h63 : l.length + n <= 140737488355328)
    (h : ∀ a' cap' w' M', OwnM f e c (.slice a' (l.length + n) cap') (l ++ l2) M' -> St S w0 w' (pre ++ (M' ++ T)) R -> wpList P ops Q rest (a.put o.dst (.slice a' (l.length + n) cap')) w') : wpList P ops Q (o :: rest) a w :=
 BigFrame.wpList_want hw fun K hK => by
  obtain ⟨v', w', M', h1, h2, h3⟩ := exec_app (P := P) ho hF X.tail hO hs l2 hx (X.rd0 hc hn (Nat.le_refl _) (by unfold maxLen; omega)) (by rw [hn]; exact hroom) (by rw [hn]; unfold maxLen; omega)
  obtain ⟨a', cap', rfl⟩ := h2.form
  have hl : (l ++ l2).length = l.length + n := by rw [List.length_append, hn]
  rw [hl] at h1 h2
  unfold Oper.wp
  rw [h1]
  exact hK _ _ (h a' cap' w' M' h2 h3)
theorem roomB {k n bytes : Nat} (h : k + n <= 1099511627776) (hb : bytes <= 128) : (k + n + (k + n) / 4 + 192) * bytes <= 281474976710656 /\ k + n <= 140737488355328 :=
 ⟨Nat.le_trans (Nat.mul_le_mul (show k + n + (k + n) / 4 + 192 <= 1374389534912 by omega) hb) (by decide), by omega⟩
theorem m_app (pre : List Ent) (hw : Region.wanted o (yielded ops a.tmps) = true) {s x : Operand} {t : TypeId} (ho : o.op = .call { callee := .builtin .append, args := #[s, x], argTypes := #[t, t] }) {α : Type} {f : α -> List Value} (l2 : List α) {e : TypeId} {c bytes : Nat} [hT : SlT P t e c bytes] (hF : Flat f c)
    {g n : Nat} {cs : List Value} {te : TypeId} (X : St S w0 w (⟨g, cs, te⟩ :: (pre ++ (M ++ T))) R) {v : Value} {l : List α} (hO : OwnM f e c v l M) (hs : EvR a s v) (hx : EvR a x (.slice (some ⟨g, 0, none⟩) n n)) (hc : l2.flatMap f = cs) (hn : l2.length = n) (h40 : l.length + n <= 1099511627776)
    (h : ∀ a' cap' w' M', OwnM f e c (.slice a' (l.length + n) cap') (l ++ l2) M' -> St S w0 w' (pre ++ (M' ++ T)) R -> wpList P ops Q rest (a.put o.dst (.slice a' (l.length + n) cap')) w') : wpList P ops Q (o :: rest) a w :=
 m_appB pre hw ho l2 hF X hO hs hx hc hn (roomB h40 hT.by_).1 (roomB h40 hT.by_).2 h
end
section
variable {P : Program} {ops : Array Oper} {Q : Exit -> Act -> World -> Prop} {L0 : List Ent} {R0 : List Rd} {brk eff lds : List Nat} {i : Nat} {r : List Nat} {o : Oper} {a : Act} {S : List Nat} {w0 w : World} {L M T : List Ent} {R : List Rd}
theorem q_build1 {t e : TypeId} {c bytes : Nat} {x : Operand} (hi : oAt ops i = some o) (ho : o.op = .buildSlice t 1 #[(0, x)]) [hT : SlT P t e c bytes] {v : Value} (hx : EvR a x v) {cs : List Value} (hc : v.cells = cs.toArray) (hl : cs.length = c) (X : St S w0 w L R) (hL : Under L0 R0 L R) (he : eff.contains i = true) (hw : Region.wanted o (yielded ops a.tmps) = true)
    (h : ∀ g w', St S w0 w' (⟨g, cs, e⟩ :: L) R -> Under L0 R0 (⟨g, cs, e⟩ :: L) R -> SQ P ops Q L0 R0 brk eff lds r (a.put o.dst (.slice (some ⟨g, 0, none⟩) 1 1)) w') : SQ P ops Q L0 R0 brk eff lds (i :: r) a w :=
 q_eff hi he hw fun K hk => by
  have hL' : Under L0 R0 ((⟨w.heap.size, cs, e⟩ : Ent) :: L) R := ⟨hL.l.cons _, hL.r⟩
  unfold Oper.wp
  rw [exec_build1 ho hx hc hl]
  exact hk _ _ (fun _ _ => (X.alloc cs e).keeps hL') (h _ _ (X.alloc cs e) hL')
theorem q_build2 {t e : TypeId} {c bytes : Nat} {x y : Operand} (hi : oAt ops i = some o) (ho : o.op = .buildSlice t 2 #[(0, x), (1, y)]) [hT : SlT P t e c bytes] {v u : Value} (hx : EvR a x v) (hy : EvR a y u) {cs ds : List Value} (hc : v.cells = cs.toArray) (hd : u.cells = ds.toArray) (hl : cs.length = c) (hl2 : ds.length = c) (X : St S w0 w L R) (hL : Under L0 R0 L R) (he : eff.contains i = true) (hw : Region.wanted o (yielded ops a.tmps) = true)
    (h : ∀ g w', St S w0 w' (⟨g, cs ++ ds, e⟩ :: L) R -> Under L0 R0 (⟨g, cs ++ ds, e⟩ :: L) R -> SQ P ops Q L0 R0 brk eff lds r (a.put o.dst (.slice (some ⟨g, 0, none⟩) 2 2)) w') : SQ P ops Q L0 R0 brk eff lds (i :: r) a w :=
 q_eff hi he hw fun K hk => by
  have hL' : Under L0 R0 ((⟨w.heap.size, cs ++ ds, e⟩ : Ent) :: L) R := ⟨hL.l.cons _, hL.r⟩
  unfold Oper.wp
  rw [exec_build2 ho hx hy hc hd hl hl2]
  exact hk _ _ (fun _ _ => (X.alloc (cs ++ ds) e).keeps hL') (h _ _ (X.alloc (cs ++ ds) e) hL')
theorem q_appB (pre : List Ent) {s x : Operand} {t : TypeId} (hi : oAt ops i = some o) (ho : o.op = .call { callee := .builtin .append, args := #[s, x], argTypes := #[t, t] }) {α : Type} {f : α -> List Value} (l2 : List α) {e : TypeId} {c bytes : Nat} [hT : SlT P t e c bytes] (hF : Flat f c)
    {g n : Nat} {cs : List Value} {te : TypeId} (X : St S w0 w (⟨g, cs, te⟩ :: (pre ++ (M ++ T))) R) {v : Value} {l : List α} (hO : OwnM f e c v l M) (hs : EvR a s v) (hx : EvR a x (.slice (some ⟨g, 0, none⟩) n n)) (hc : l2.flatMap f = cs) (hn : l2.length = n) (hroom : (l.length + n + (l.length + n) / 4 + 192) * bytes <= 281474976710656) (h63 : l.length + n <= 140737488355328)
    (hL : Under L0 R0 (⟨g, cs, te⟩ :: (pre ++ (M ++ T))) R) (hA : L0.Sublist pre) (he : eff.contains i = true) (hw : Region.wanted o (yielded ops a.tmps) = true)
    (h : ∀ a' cap' w' M', OwnM f e c (.slice a' (l.length + n) cap') (l ++ l2) M' -> St S w0 w' (pre ++ (M' ++ T)) R -> Under L0 R0 (pre ++ (M' ++ T)) R -> SQ P ops Q L0 R0 brk eff lds r (a.put o.dst (.slice a' (l.length + n) cap')) w') : SQ P ops Q L0 R0 brk eff lds (i :: r) a w :=
 q_eff hi he hw fun K hk => by
  obtain ⟨v', w', M', h1, h2, h3⟩ := exec_app (P := P) ho hF X.tail hO hs l2 hx (X.rd0 hc hn (Nat.le_refl _) (by unfold maxLen; omega)) (by rw [hn]; exact hroom) (by rw [hn]; unfold maxLen; omega)
  obtain ⟨a', cap', rfl⟩ := h2.form
  have hl : (l ++ l2).length = l.length + n := by rw [List.length_append, hn]
  rw [hl] at h1 h2
  have hL' : Under L0 R0 (pre ++ (M' ++ T)) R := ⟨hA.trans (List.sublist_append_left _ _), hL.r⟩
  unfold Oper.wp
  rw [h1]
  exact hk _ _ (fun _ _ => h3.keeps hL') (h a' cap' w' M' h2 h3 hL')
theorem q_app (pre : List Ent) {s x : Operand} {t : TypeId} (hi : oAt ops i = some o) (ho : o.op = .call { callee := .builtin .append, args := #[s, x], argTypes := #[t, t] }) {α : Type} {f : α -> List Value} (l2 : List α) {e : TypeId} {c bytes : Nat} [hT : SlT P t e c bytes] (hF : Flat f c)
    {g n : Nat} {cs : List Value} {te : TypeId} (X : St S w0 w (⟨g, cs, te⟩ :: (pre ++ (M ++ T))) R) {v : Value} {l : List α} (hO : OwnM f e c v l M) (hs : EvR a s v) (hx : EvR a x (.slice (some ⟨g, 0, none⟩) n n)) (hc : l2.flatMap f = cs) (hn : l2.length = n) (h40 : l.length + n <= 1099511627776)
    (hL : Under L0 R0 (⟨g, cs, te⟩ :: (pre ++ (M ++ T))) R) (hA : L0.Sublist pre) (he : eff.contains i = true) (hw : Region.wanted o (yielded ops a.tmps) = true)
    (h : ∀ a' cap' w' M', OwnM f e c (.slice a' (l.length + n) cap') (l ++ l2) M' -> St S w0 w' (pre ++ (M' ++ T)) R -> Under L0 R0 (pre ++ (M' ++ T)) R -> SQ P ops Q L0 R0 brk eff lds r (a.put o.dst (.slice a' (l.length + n) cap')) w') : SQ P ops Q L0 R0 brk eff lds (i :: r) a w :=
 q_appB pre hi ho l2 hF X hO hs hx hc hn (roomB h40 hT.by_).1 (roomB h40 hT.by_).2 hL hA he hw h
end
abbrev flR (g : Nat) : Rd := ⟨.slice (some ⟨g, 0, none⟩) 1 1, 1, [.int .i64 2, .int .i64 0, .string ⟨#[]⟩]⟩
section
variable {P : Program} {ops : Array Oper} {Q : Exit -> Act -> World -> Prop} {o : Oper} {rest : List Oper} {a : Act} {S : List Nat} {w0 w : World} {L : List Ent} {R : List Rd}
theorem run_rd0 {T : TypeId} {n : Nat} [hT : AggT P T n] {g cap k : Nat} {cs : List Value} (hs : Sl w (.slice (some ⟨g, 0, none⟩) k cap) k cs) (hn : cs.length = n) : (loadVar T ⟨g, 0, none⟩).run P w = .ok (.agg cs.toArray) w := by
 obtain ⟨⟨d, hu, hd⟩, hz⟩ := hT
 obtain ⟨a, c, hv, _, _, h3⟩ := hs
 refine run_loadVar_mid w g 0 T cs d (fun j v hj => ?_) hu hd (by rw [hz, hn])
 rcases h3 with h3 | ⟨b, off, ha, hc⟩
 ·rw [h3] at hj; cases hj
 ·cases hv; cases ha
  exact hc j v hj
theorem m_rd0 (hw : Region.wanted o (yielded ops a.tmps) = true) {T : TypeId} {x : Operand} (ho : o.op = .load T x) {g : Nat} (hx : a.eval x = .pointer (some ⟨g, 0, none⟩)) {n : Nat} [hT : AggT P T n] (X : St S w0 w L R)
    {cap k : Nat} {cs : List Value} (hR : ⟨.slice (some ⟨g, 0, none⟩) k cap, k, cs⟩ ∈ R) (hn : cs.length = n) (h : wpList P ops Q rest (a.put o.dst (.agg cs.toArray)) w) : wpList P ops Q (o :: rest) a w :=
 BigFrame.wpList_want hw fun K hK => by
  unfold Oper.wp execOp
  simp only [ho, hx, Instr.loadAt, Instr.sureAddr, Sem.run_bind, Sem.run_pure, Result.andThen_ok, run_rd0 (T := T) (X.rd _ hR).1 hn]
  exact hK _ _ h
end
section
variable {P : Program} {ops : Array Oper} {Q : Exit -> Act -> World -> Prop} {L0 : List Ent} {R0 : List Rd} {brk eff lds : List Nat} {i : Nat} {r : List Nat} {o : Oper} {a : Act} {S : List Nat} {w0 w : World} {L M T : List Ent} {R : List Rd}
theorem q_rd0 {x : Operand} {T : TypeId} {g n : Nat} (hi : oAt ops i = some o) (ho : o.op = .load T x) (hx : a.eval x = .pointer (some ⟨g, 0, none⟩)) [hT : AggT P T n] {cap k : Nat} {cs : List Value} (hR : ⟨.slice (some ⟨g, 0, none⟩) k cap, k, cs⟩ ∈ R0) (hn : cs.length = n)
    (he : (!eff.contains i && lds.contains i) = true) (hw : Region.wanted o (yielded ops a.tmps) = true) (X : St S w0 w L R) (hL : Under L0 R0 L R) (hQ : NoLook Q)
    (h : SQ P ops Q L0 R0 brk eff lds r (a.put o.dst (.agg cs.toArray)) w) : SQ P ops Q L0 R0 brk eff lds (i :: r) a w :=
 q_read hi he hw X hL hQ (fun w' hw' => by
  unfold execOp
  simp only [ho, hx, Instr.loadAt, Instr.sureAddr, Sem.run_bind, Sem.run_pure, Result.andThen_ok, run_rd0 (T := T) (hw'.r _ hR) hn]) h
theorem q_cell0 {x : Operand} {T : TypeId} {b j : Nat} (hi : oAt ops i = some o) (ho : o.op = .load T x) (hx : EvR a x (.pointer (some ⟨b, j, none⟩))) [OneT P T] {cap k k' : Nat} {cs : List Value} (hR : ⟨.slice (some ⟨b, 0, none⟩) k' cap, k, cs⟩ ∈ R0) {v : Value} (hv : cs[j]? = some v)
    (he : (!eff.contains i && lds.contains i) = true) (hw : Region.wanted o (yielded ops a.tmps) = true) (X : St S w0 w L R) (hL : Under L0 R0 L R) (hQ : NoLook Q)
    (h : SQ P ops Q L0 R0 brk eff lds r (a.put o.dst v) w) : SQ P ops Q L0 R0 brk eff lds (i :: r) a w :=
 q_read hi he hw X hL hQ (fun w' hw' => by
  have hc : w'.cell? ⟨b, j, none⟩ = some v := by
   obtain ⟨ad, c, hv2, _, _, h3⟩ := hw'.r _ hR
   rcases h3 with h3 | ⟨b2, off, ha, hc⟩
   ·have h3' : cs = [] := h3
    rw [h3'] at hv; cases hv
   ·simp only [Value.slice.injEq] at hv2
    obtain ⟨rfl, _, _⟩ := hv2
    cases ha
    have := hc j v hv
    rwa [Nat.zero_add] at this
  unfold execOp
  simp only [ho, hx.eval, Instr.loadAt, Instr.sureAddr, Sem.run_bind, Sem.run_pure, Result.andThen_ok, run_loadOne (T := T) hc]) h
end
theorem Own.cellsOf {α : Type} {f : α -> List Value} {base : Nat} {e : TypeId} {c : Nat} {w : World} {v : Value} {l : List α} (h : Own f base e c w v l) {g : Nat} (hg : v.ownBlock = some g) : ∃ cur, w.heap[g]? = some (.cells cur e (0, 0)) := by
 obtain ⟨_, h2⟩ := h
 rcases h2 with ⟨rfl, _⟩ | ⟨g', cap, cur, rfl, _, hh, _⟩
 ·cases hg
 ·simp only [Value.ownBlock, Option.some.injEq] at hg
  subst hg
  exact ⟨cur, hh⟩
theorem Own.apart {α β : Type} {f : α -> List Value} {f2 : β -> List Value} {base base2 : Nat} {e e2 : TypeId} {c c2 : Nat} {w : World} {v v2 : Value} {l : List α} {l2 : List β} (h : Own f base e c w v l) (h2 : Own f2 base2 e2 c2 w v2 l2) (hne : e ≠ e2) : v.ownBlock = none \/ v.ownBlock ≠ v2.ownBlock := by
 cases hv : v.ownBlock with
 | none => exact .inl rfl
 | some g =>
  refine .inr fun hh => ?_
  obtain ⟨c1, h1⟩ := h.cellsOf hv
  obtain ⟨c2, h3⟩ := h2.cellsOf hh.symm
  rw [h1] at h3
  simp only [Option.some.injEq, Obj.cells.injEq] at h3
  exact hne h3.2.1
theorem Own.grownTy {α β : Type} {f : α -> List Value} {f2 : β -> List Value} {base base2 : Nat} {e e2 : TypeId} {c c2 : Nat} {w w' : World} {v v2 : Value} {l : List α} {l2 : List β} (h : Own f base e c w v l) (h2 : Own f2 base2 e2 c2 w v2 l2) (hne : e ≠ e2) (hg : w.grownBy w' v2.ownBlock) : Own f base e c w' v l :=
 h.grown hg (h.apart h2 hne)
def OTxn (base : Nat) (tc ti : TypeId) (w : World) (v : Value) (t : Txn) : Prop :=
 ∃ vm vd vr, v = txnV t vm vd vr /\ Own cpyC base tc 2 w vm t.mt /\ Own cpyC base tc 2 w vd t.dt /\ Own intC base ti 1 w vr t.rev /\ t.mt.length <= 5864062014805 /\ t.dt.length <= 5864062014805 /\ t.rev.length <= 17592186044160
section
variable {base : Nat} {tc ti tt : TypeId} {w w' : World} {v : Value} {t : Txn}
theorem OTxn.reads (h : OTxn base tc ti w v t) : RTxn w v t := by
 obtain ⟨vm, vd, vr, hv, h1, h2, h3, h4⟩ := h
 exact ⟨vm, vd, vr, hv, h1.reads, h2.reads, h3.reads, h4⟩
theorem OTxn.below (h : OTxn base tc ti w v t) (hb : Below w.heap.size w w') : OTxn base tc ti w' v t := by
 obtain ⟨vm, vd, vr, hv, h1, h2, h3, h4⟩ := h
 exact ⟨vm, vd, vr, hv, h1.below hb, h2.below hb, h3.below hb, h4⟩
theorem OTxn.mono (h : OTxn base tc ti w v t) {b2 : Nat} (hb : b2 <= base) : OTxn b2 tc ti w v t := by
 obtain ⟨vm, vd, vr, hv, h1, h2, h3, h4⟩ := h
 exact ⟨vm, vd, vr, hv, h1.mono hb, h2.mono hb, h3.mono hb, h4⟩
theorem OTxn.grownTy {β : Type} {f2 : β -> List Value} {base2 : Nat} {e2 : TypeId} {c2 : Nat} {v2 : Value} {l2 : List β} (h : OTxn base tc ti w v t) (h2 : Own f2 base2 e2 c2 w v2 l2) (hc : tc ≠ e2) (hi : ti ≠ e2) (hg : w.grownBy w' v2.ownBlock) : OTxn base tc ti w' v t := by
 obtain ⟨vm, vd, vr, hv, h1, h2', h3, h4⟩ := h
 exact ⟨vm, vd, vr, hv, h1.grownTy h2 hc hg, h2'.grownTy h2 hc hg, h3.grownTy h2 hi hg, h4⟩
theorem OTxn.tv (h : OTxn base tc ti w v t) : ∃ x : TV, x.t = t /\ v = x.val /\ OTxn base tc ti w x.val x.t := by
 obtain ⟨x, hx, hv, _⟩ := h.reads.tv
 exact ⟨x, hx, hv, by rw [hx, <- hv]; exact h⟩
def OTxns (base : Nat) (tt tc ti : TypeId) (w : World) (v : Value) (l : List Txn) : Prop :=
 ∃ xs : List TV, Own tvC base tt 10 w v xs /\ xs.map (·.t) = l /\ ∀ x ∈ xs, OTxn base tc ti w x.val x.t
variable {l : List Txn}
theorem OTxns.nil (base : Nat) (tt tc ti : TypeId) (w : World) : OTxns base tt tc ti w (.slice none 0 0) [] := ⟨[], Own.nil _ _ _ _ _, rfl, fun _ h => absurd h List.not_mem_nil⟩
theorem OTxns.below (h : OTxns base tt tc ti w v l) (hb : Below w.heap.size w w') : OTxns base tt tc ti w' v l := by
 obtain ⟨xs, h1, h2, h3⟩ := h
 exact ⟨xs, h1.below hb, h2, fun x hx => (h3 x hx).below hb⟩
theorem OTxns.mono (h : OTxns base tt tc ti w v l) {b2 : Nat} (hb : b2 <= base) : OTxns b2 tt tc ti w v l := by
 obtain ⟨xs, h1, h2, h3⟩ := h
 exact ⟨xs, h1.mono hb, h2, fun x hx => (h3 x hx).mono hb⟩
theorem OTxns.form (h : OTxns base tt tc ti w v l) : ∃ a c, v = .slice a l.length c := by
 obtain ⟨xs, h1, rfl, h3⟩ := h
 obtain ⟨a, c, hv⟩ := h1.form
 exact ⟨a, c, by rw [hv, List.length_map]⟩
theorem OTxns.pushed {xs : List TV} {v' : Value} {y : TV} (h1 : Own tvC base tt 10 w v xs) (h3 : ∀ x ∈ xs, OTxn base tc ti w x.val x.t) (hy : OTxn base tc ti w y.val y.t) (hc : tc ≠ tt) (hi : ti ≠ tt) (ho : Own tvC base tt 10 w' v' (xs ++ [y])) (hg : w.grownBy w' v.ownBlock) :
    OTxns base tt tc ti w' v' (xs.map (·.t) ++ [y.t]) := by
 refine ⟨xs ++ [y], ho, by simp, fun x hx => ?_⟩
 rcases List.mem_append.1 hx with hx | hx
 ·exact (h3 x hx).grownTy h1 hc hi hg
 ·rw [List.mem_singleton] at hx
  subst hx
  exact hy.grownTy h1 hc hi hg
end
theorem RTxns.at3 {w : World} {a : Option Addr} {n cap : Nat} {l : List Txn} (h : RTxns w (.slice a n cap) l) {k : Nat} (hk : k < l.length) :
    ∃ b off am cm ad cd ar cr, a = some ⟨b, off, none⟩ /\ RTxn w (txnV l[k] (.slice am l[k].mt.length cm) (.slice ad l[k].dt.length cd) (.slice ar l[k].rev.length cr)) l[k] /\ w.cell? ⟨b, off + k * 10, none⟩ = some (.int .i64 l[k].seq) /\ w.cell? ⟨b, off + k * 10 + 1, none⟩ = some (.slice am l[k].mt.length cm) /\ w.cell? ⟨b, off + k * 10 + 2, none⟩ = some (.slice ad l[k].dt.length cd) /\ w.cell? ⟨b, off + k * 10 + 3, none⟩ = some (.slice ar l[k].rev.length cr) /\ w.cell? ⟨b, off + k * 10 + 4, none⟩ = some (.bool l[k].h0.on) /\ w.cell? ⟨b, off + k * 10 + 5, none⟩ = some (.int .i64 l[k].h0.left) /\ w.cell? ⟨b, off + k * 10 + 6, none⟩ = some (.bool l[k].h1.on) /\ w.cell? ⟨b, off + k * 10 + 7, none⟩ = some (.int .i64 l[k].h1.left) /\ w.cell? ⟨b, off + k * 10 + 8, none⟩ = some (.bool l[k].h2.on) /\ w.cell? ⟨b, off + k * 10 + 9, none⟩ = some (.int .i64 l[k].h2.left) := by
 obtain ⟨b, off, vm, vd, vr, ha, hr, c0, c1, c2, c3, c4⟩ := h.at hk
 have hr' := hr
 obtain ⟨vm', vd', vr', hv, hm, hd, hrr, n1, n2, n3⟩ := hr
 simp only [txnV, Value.agg.injEq, Array.mk.injEq, List.cons.injEq, and_true, true_and] at hv
 obtain ⟨rfl, rfl, rfl⟩ := hv
 obtain ⟨am, cm, rfl, _⟩ := hm.form
 obtain ⟨ad, cd, rfl, _⟩ := hd.form
 obtain ⟨ar, cr, rfl, _⟩ := hrr.form
 exact ⟨b, off, am, cm, ad, cd, ar, cr, ha, hr', c0, c1, c2, c3, c4⟩
abbrev dskR (as_ : Option Addr) (cs : Nat) (aw : Option Addr) (cw : Nat) (d : Dsk) : List Rd := [Rd.of strC (.slice as_ d.safe.length cs) d.safe, Rd.of wrC (.slice aw d.writes.length cw) d.writes]
theorem St.dsk {S : List Nat} {w0 w : World} {L : List Ent} {R : List Rd} {as_ aw : Option Addr} {cs cw : Nat} {d : Dsk} (X : St S w0 w L (Rd.of strC (.slice as_ d.safe.length cs) d.safe :: Rd.of wrC (.slice aw d.writes.length cw) d.writes :: R)) (h3 : d.safe.length <= 8796093022208) (h4 : d.writes.length <= 5864062014805) :
    RDisk w (.agg #[.slice as_ d.safe.length cs, .slice aw d.writes.length cw]) d := ⟨_, _, rfl, X.r0, X.r1, h3, h4⟩
def RdIn (base : Nat) (w : World) (r : Rd) : Prop := Sl w r.v r.n r.cs /\ (r.cs = [] \/ ∀ b, vblk r.v = some b -> base <= b)
theorem Own.rdIn {α : Type} {f : α -> List Value} {base : Nat} {e : TypeId} {c : Nat} {w : World} {v : Value} {l : List α} (ho : Own f base e c w v l) : RdIn base w (Rd.of f v l) := by
 refine ⟨ho.reads, .inr fun b hbv => ?_⟩
 obtain ⟨_, h2⟩ := ho
 rcases h2 with ⟨rfl, _⟩ | ⟨g, cap, cur, rfl, hbg, _⟩
 ·cases hbv
 ·cases hbv
  exact hbg
theorem St.addRs {S : List Nat} {w0 w : World} {L : List Ent} {R : List Rd} {base : Nat} (X : St S w0 w L R) (hL : ∀ e ∈ L, e.g < base) {Rs : List Rd} (h : ∀ r ∈ Rs, RdIn base w r) : St S w0 w L (Rs ++ R) := by
 induction Rs with
 | nil => exact X
 | cons r Rs ih =>
  obtain ⟨h1, h2⟩ := h r (.head _)
  refine (ih fun x hx => h x (.tail _ hx)).addR h1 ?_
  rcases h2 with h2 | h2
  ·exact .inl h2
  ·exact .inr fun b hb e he heq => by
     have := h2 b hb
     have := hL e he
     omega
def txR (v : Value) (xs : List TV) : List Rd := Rd.of tvC v xs :: xs.flatMap fun x => [Rd.of cpyC x.m.val x.t.mt, Rd.of cpyC x.d.val x.t.dt, Rd.of intC x.r.val x.t.rev]
def TV.fits (x : TV) : Prop := x.t.mt.length <= 5864062014805 /\ x.t.dt.length <= 5864062014805 /\ x.t.rev.length <= 17592186044160
theorem OTxns.rdIn {base : Nat} {tt tc ti : TypeId} {w : World} {v : Value} {l : List Txn} (h : OTxns base tt tc ti w v l) : ∃ xs : List TV, xs.map (·.t) = l /\ (∀ x ∈ xs, x.fits) /\ ∀ r ∈ txR v xs, RdIn base w r := by
 obtain ⟨xs, h1, h2, h3⟩ := h
 refine ⟨xs, h2, fun x hx => ?_, fun r hr => ?_⟩
 ·obtain ⟨_, _, _, _, _, _, _, n⟩ := h3 x hx
  exact n
 ·rcases List.mem_cons.1 hr with rfl | hr
  ·exact h1.rdIn
  ·obtain ⟨x, hx, hr⟩ := List.mem_flatMap.1 hr
   obtain ⟨vm, vd, vr, hv, o1, o2, o3, _⟩ := h3 x hx
   simp only [TV.val, txnV, Value.agg.injEq, Array.mk.injEq, List.cons.injEq, and_true, true_and] at hv
   obtain ⟨e1, e2, e3⟩ := hv
   subst e1 e2 e3
   simp only [List.mem_cons, List.not_mem_nil, or_false] at hr
   rcases hr with rfl | rfl | rfl
   ·exact o1.rdIn
   ·exact o2.rdIn
   ·exact o3.rdIn
theorem St.txns {S : List Nat} {w0 w : World} {L : List Ent} {R : List Rd} (X : St S w0 w L R) {v : Value} {xs : List TV} (hf : ∀ x ∈ xs, x.fits) (hl : xs.length <= 1099511627744) (h : ∀ r ∈ txR v xs, r ∈ R) : RTxns w v (xs.map (·.t)) := by
 refine ⟨xs, (X.rd _ (h _ (.head _))).1, rfl, fun x hx => ?_, hl⟩
 have hm := fun r hr => (X.rd r (h r (.tail _ (List.mem_flatMap.2 ⟨x, hx, hr⟩)))).1
 exact ⟨x.m.val, x.d.val, x.r.val, rfl, hm _ (.head _), hm _ (.tail _ (.head _)), hm _ (.tail _ (.tail _ (.head _))), hf x hx⟩
theorem St.addOTxns {S : List Nat} {w0 w w' : World} {L : List Ent} {R : List Rd} (X : St S w0 w L R) (hb : Below w.heap.size w w') {tt tc ti : TypeId} {v : Value} {l : List Txn} (h : OTxns w.heap.size tt tc ti w' v l) :
    ∃ xs : List TV, xs.map (·.t) = l /\ (∀ x ∈ xs, x.fits) /\ St S w0 w' L (txR v xs ++ R) := by
 obtain ⟨xs, h1, h2, h3⟩ := h.rdIn
 exact ⟨xs, h1, h2, (X.call hb).addRs (fun e he => (X.blk e he).lt) h3⟩
theorem St.dskM {S : List Nat} {w0 w : World} {L : List Ent} {R : List Rd} {as_ aw : Option Addr} {cs cw : Nat} {d : Dsk} (X : St S w0 w L R) (h3 : d.safe.length <= 8796093022208) (h4 : d.writes.length <= 5864062014805) (h : ∀ r ∈ dskR as_ cs aw cw d, r ∈ R) :
    RDisk w (.agg #[.slice as_ d.safe.length cs, .slice aw d.writes.length cw]) d := ⟨_, _, rfl, (X.rd _ (h _ (.head _))).1, (X.rd _ (h _ (.tail _ (.head _)))).1, h3, h4⟩
theorem RL.take {α : Type} {f : α -> List Value} {w : World} {a : Option Addr} {n cap : Nat} {l : List α} (h : RL f w (.slice a n cap) l) {k : Nat} (hk : k <= l.length) : RL f w (.slice a k cap) (l.take k) := by
 obtain ⟨a', cap', hv, h1, h2, h3⟩ := h
 simp only [Value.slice.injEq] at hv
 obtain ⟨rfl, rfl, rfl⟩ := hv
 have hl : (l.take k).length = k := by rw [List.length_take]; omega
 refine ⟨a, cap, by rw [hl], by omega, h2, ?_⟩
 have hp : l.flatMap f = (l.take k).flatMap f ++ (l.drop k).flatMap f := by rw [<- List.flatMap_append, List.take_append_drop]
 rcases h3 with h3 | ⟨b, off, ha, hc⟩
 ·rw [hp] at h3
  exact .inl (List.append_eq_nil_iff.1 h3).1
 ·refine .inr ⟨b, off, ha, fun j u hj => hc j u ?_⟩
  have hlt : j < ((l.take k).flatMap f).length := (List.getElem?_eq_some_iff.1 hj).1
  rw [hp, List.getElem?_append_left hlt]; exact hj
theorem Own.fresh {α : Type} {f : α -> List Value} {base B : Nat} {e : TypeId} {c : Nat} {w : World} {v : Value} {l : List α} (h : Own f base e c w v l) (hB : B <= base) : ∀ b, vblk v = some b -> B <= b := fun b hb => by
 obtain ⟨_, h2⟩ := h
 rcases h2 with ⟨rfl, _⟩ | ⟨g, cap, cur, rfl, hbg, _⟩
 ·cases hb
 ·cases hb; exact Nat.le_trans hB hbg
def Slot {α : Type} (f : α -> List Value) (B : Nat) (w' : World) (v v' : Value) (l l' : List α) : Prop := (v' = v /\ l' = l) \/ (RL f w' v' l' /\ ∀ b, vblk v' = some b -> B <= b)
theorem Slot.same {α : Type} (f : α -> List Value) (B : Nat) (w' : World) (v : Value) (l : List α) : Slot f B w' v v l l := .inl ⟨rfl, rfl⟩
theorem Slot.read {α : Type} {f : α -> List Value} {B : Nat} {w' : World} {v v' : Value} {l l' : List α} (h : Slot f B w' v v' l l') (hr : RL f w' v l) : RL f w' v' l' := by
 rcases h with ⟨rfl, rfl⟩ | ⟨h, _⟩
 ·exact hr
 ·exact h
structure NewT (B : Nat) (w' : World) (vm vd vr vm' vd' vr' : Value) (t t' : Txn) : Prop where
 m : Slot cpyC B w' vm vm' t.mt t'.mt
 d : Slot cpyC B w' vd vd' t.dt t'.dt
 r : Slot intC B w' vr vr' t.rev t'.rev
theorem NewT.same (B : Nat) (w' : World) (vm vd vr : Value) (t : Txn) : NewT B w' vm vd vr vm vd vr t t := ⟨.same _ _ _ _ _, .same _ _ _ _ _, .same _ _ _ _ _⟩
section
variable {S : List Nat} {w0 w w' : World} {L : List Ent} {R : List Rd}
theorem St.addSlot (X : St S w0 w L R) {α : Type} {f : α -> List Value} {B : Nat} {v v' : Value} {l l' : List α} (hB : ∀ e ∈ L, e.g < B) (hs : Slot f B w v v' l l') (hv : Rd.of f v l ∈ R) : St S w0 w L (Rd.of f v' l' :: R) := by
 rcases hs with ⟨rfl, rfl⟩ | ⟨h1, h2⟩
 ·exact X.addR (X.rd _ hv).1 (X.rd _ hv).2
 ·exact X.addR h1 (.inr fun b hb e he heq => by
    have := h2 b hb
    have := hB e he
    omega)
theorem St.lts (X : St S w0 w L R) : ∀ e ∈ L, e.g < w.heap.size := fun e he => (X.blk e he).lt
theorem St.addT (X : St S w0 w L R) (hb : Below w.heap.size w w') {vm vd vr vm' vd' vr' : Value} {t t' : Txn} (hN : NewT w.heap.size w' vm vd vr vm' vd' vr' t t') (hm : Rd.of cpyC vm t.mt ∈ R) (hd : Rd.of cpyC vd t.dt ∈ R) (hr : Rd.of intC vr t.rev ∈ R) :
    St S w0 w' L (Rd.of cpyC vm' t'.mt :: Rd.of cpyC vd' t'.dt :: Rd.of intC vr' t'.rev :: R) := by
 have X1 := X.call hb
 have X2 := X1.addSlot X.lts hN.r hr
 have X3 := X2.addSlot X.lts hN.d (List.mem_cons_of_mem _ hd)
 exact X3.addSlot X.lts hN.m (List.mem_cons_of_mem _ (List.mem_cons_of_mem _ hm))
end
def NewD (B : Nat) (w' : World) (v v' : Value) (d d' : Dsk) : Prop :=
 ∃ vs vw vs' vw', v = .agg #[vs, vw] /\ v' = .agg #[vs', vw'] /\ Slot strC B w' vs vs' d.safe d'.safe /\ Slot wrC B w' vw vw' d.writes d'.writes
theorem Own.slot {α : Type} {f : α -> List Value} {base B : Nat} {e : TypeId} {c : Nat} {w : World} {v v0 : Value} {l l0 : List α} (h : Own f base e c w v l) (hB : B <= base) : Slot f B w v0 v l0 l := .inr ⟨h.reads, h.fresh hB⟩
theorem Slot.nil {α : Type} {f : α -> List Value} {B : Nat} {w : World} {v0 : Value} {l0 : List α} : Slot f B w v0 (.slice none 0 0) l0 [] := .inr ⟨RL.nil _ _, fun b hb => by cases hb⟩
theorem RDisk.same {w w' : World} {v : Value} {d : Dsk} (h : RDisk w v d) (B : Nat) : NewD B w' v v d d := by
 obtain ⟨vs, vw, hv, _⟩ := h
 exact ⟨vs, vw, vs, vw, hv, hv, .same _ _ _ _ _, .same _ _ _ _ _⟩
structure AC where
 a : Option Addr
 c : Nat
structure JV where
 sf : AC
 wr : AC
 nm : AC
 nd : AC
 nr : AC
 sm : AC
 sd : AC
 sr : AC
 dn : AC
 us : AC
 st : AC
 ft : AC
abbrev arrL (f : Int -> Int) : List Value := [.int .i64 (f 0), .int .i64 (f 1), .int .i64 (f 2), .int .i64 (f 3), .int .i64 (f 4), .int .i64 (f 5), .int .i64 (f 6), .int .i64 (f 7), .int .i64 (f 8), .int .i64 (f 9), .int .i64 (f 10), .int .i64 (f 11)]
def jCells (v : JV) (j : Jn) : List Value :=
 .slice v.sf.a j.disk.safe.length v.sf.c :: .slice v.wr.a j.disk.writes.length v.wr.c :: .bool j.down :: .int .i64 j.ring.head :: .int .i64 j.ring.used :: .int .i64 j.now.seq :: .slice v.nm.a j.now.mt.length v.nm.c :: .slice v.nd.a j.now.dt.length v.nd.c :: .slice v.nr.a j.now.rev.length v.nr.c :: .bool j.now.h0.on :: .int .i64 j.now.h0.left :: .bool j.now.h1.on :: .int .i64 j.now.h1.left :: .bool j.now.h2.on :: .int .i64 j.now.h2.left :: .int .i64 j.sealed.seq :: .slice v.sm.a j.sealed.mt.length v.sm.c :: .slice v.sd.a j.sealed.dt.length v.sd.c :: .slice v.sr.a j.sealed.rev.length v.sr.c :: .bool j.sealed.h0.on :: .int .i64 j.sealed.h0.left :: .bool j.sealed.h1.on :: .int .i64 j.sealed.h1.left :: .bool j.sealed.h2.on :: .int .i64 j.sealed.h2.left :: .slice v.dn.a j.done.length v.dn.c :: .slice v.us.a j.used.length v.us.c :: .int .i64 (j.roles 0) :: .int .i64 (j.roles 1) :: .int .i64 (j.roles 2) :: .int .i64 (j.roles 3) :: .int .i64 (j.roles 4) :: .int .i64 (j.roles 5) :: .int .i64 (j.roles 6) :: .int .i64 (j.roles 7) :: .int .i64 (j.roles 8) :: .int .i64 (j.roles 9) :: .int .i64 (j.roles 10) :: .int .i64 (j.roles 11) :: .int .i64 (j.freed 0) :: .int .i64 (j.freed 1) :: .int .i64 (j.freed 2) :: .int .i64 (j.freed 3) :: .int .i64 (j.freed 4) :: .int .i64 (j.freed 5) :: .int .i64 (j.freed 6) :: .int .i64 (j.freed 7) :: .int .i64 (j.freed 8) :: .int .i64 (j.freed 9) :: .int .i64 (j.freed 10) :: .int .i64 (j.freed 11) :: .int .i64 j.work :: .slice v.st.a j.steps.length v.st.c :: .int .i64 j.after.head :: .int .i64 j.after.used :: .int .i64 j.pending :: .slice v.ft.a j.found.txns.length v.ft.c :: .int .i64 j.found.next :: .int .i64 j.found.at_ :: .int .i64 j.last :: .int .i64 j.acts :: []
def inR (xs : List TV) : List Rd := xs.flatMap fun x => [Rd.of cpyC x.m.val x.t.mt, Rd.of cpyC x.d.val x.t.dt, Rd.of intC x.r.val x.t.rev]
def jRds (v : JV) (j : Jn) (ds fs : List TV) : List Rd :=
 Rd.of strC (.slice v.sf.a j.disk.safe.length v.sf.c) j.disk.safe :: Rd.of wrC (.slice v.wr.a j.disk.writes.length v.wr.c) j.disk.writes ::
 Rd.of cpyC (.slice v.nm.a j.now.mt.length v.nm.c) j.now.mt :: Rd.of cpyC (.slice v.nd.a j.now.dt.length v.nd.c) j.now.dt :: Rd.of intC (.slice v.nr.a j.now.rev.length v.nr.c) j.now.rev ::
 Rd.of cpyC (.slice v.sm.a j.sealed.mt.length v.sm.c) j.sealed.mt :: Rd.of cpyC (.slice v.sd.a j.sealed.dt.length v.sd.c) j.sealed.dt :: Rd.of intC (.slice v.sr.a j.sealed.rev.length v.sr.c) j.sealed.rev ::
 Rd.of stpC (.slice v.st.a j.steps.length v.st.c) j.steps :: Rd.of tvC (.slice v.ft.a j.found.txns.length v.ft.c) fs :: (inR fs ++ inR ds)
structure JFm (Tt Ti : TypeId) (v : JV) (j : Jn) (ds fs : List TV) (MD MU : List Ent) : Prop where
 dn : OwnO tvC Tt 10 (.slice v.dn.a j.done.length v.dn.c) ds MD
 us : OwnO intC Ti 1 (.slice v.us.a j.used.length v.us.c) j.used MU
 dmap : ds.map (·.t) = j.done
 fmap : fs.map (·.t) = j.found.txns
 dfit : ∀ x ∈ ds, x.fits
 ffit : ∀ x ∈ fs, x.fits
 inv : InvJ j
 sz : SzI j
def JForm (TJ Tt Ti : TypeId) (g : Nat) (j : Jn) (M : List Ent) (Rj : List Rd) : Prop :=
 ∃ v ds fs MD MU, JFm Tt Ti v j ds fs MD MU /\ M = ⟨g, jCells v j, TJ⟩ :: (MD ++ MU) /\ Rj = jRds v j ds fs
structure JSz (j : Jn) : Prop where
 dk : goodD j.disk = true
 now : j.now.mt.length <= 12 /\ j.now.dt.length <= 12 /\ j.now.rev.length <= 12
 sealed : j.sealed.mt.length <= 12 /\ j.sealed.dt.length <= 12 /\ j.sealed.rev.length <= 12
 steps : j.steps.length <= 100
 done : j.done.length <= 25
 used : j.used.length <= 26
 found : j.found.txns.length <= 25
theorem good_lens {t : Txn} (h : goodT t = true) : t.mt.length <= 12 /\ t.dt.length <= 12 /\ t.rev.length <= 12 := by
 obtain ⟨a, b, c⟩ := lens (goodT_of.1 h)
 omega
theorem UpI.sz {j : Jn} {d : Dsk} {r : Ring} {us : List Int} (h : UpI j d r us) : j.done.length <= 25 /\ us.length <= 25 := by
 have := h.log.bounds.2.2.2
 exact ⟨this, by rw [h.len]; exact this⟩
theorem InvJ.sz {j : Jn} (h : InvJ j) (hz : SzI j) : JSz j := by
 obtain ⟨hf, hs⟩ := hz
 cases h with
 | idle hd hw hu hn hse =>
  obtain ⟨s1, s2⟩ := hu.sz
  exact ⟨hu.log.good, good_lens hn.good, by rw [hse]; exact ⟨Nat.zero_le _, Nat.zero_le _, Nat.zero_le _⟩, hs, s1, by omega, hf⟩
 | sealing d r us k hd hw hu hn he hq hq2 hr hus hk hdk hst =>
  obtain ⟨s1, s2⟩ := hu.sz
  obtain ⟨ho, hlen⟩ := com_ok he
  obtain ⟨_, g, _⟩ := comE_zero he
  refine ⟨?_, good_lens hn.good, good_lens (goodT_of.2 g), hs, s1, by rw [hus, List.length_append]; simp; omega, hf⟩
  rw [hdk]
  exact (run_good _ hu.log.good (fun x hx => ho x (List.mem_of_mem_take hx)) (by rw [hu.log.clean, List.length_nil, List.length_take]; omega)).1
 | homing d k hd hw hu hn hse hp ha hk hdk hst hne =>
  obtain ⟨s1, s2⟩ := hu.sz
  have hb := hu.log.bounds
  obtain ⟨ho, hlen⟩ := chk_ok (newestL_copies hu.log.goods) hb.1 hb.2.1
  refine ⟨?_, good_lens hn.good, by rw [hse]; exact ⟨Nat.zero_le _, Nat.zero_le _, Nat.zero_le _⟩, hs, s1, by omega, hf⟩
  rw [hdk]
  exact (run_good _ hu.log.good (fun x hx => ho x (List.mem_of_mem_take hx)) (by rw [hu.log.clean, List.length_nil, List.length_take]; omega)).1
 | off hj hu =>
  obtain ⟨⟨txs, q, a, u, hL, h2⟩, h3⟩ := hu
  exact ⟨hL.good, by rw [hj]; exact ⟨Nat.zero_le _, Nat.zero_le _, Nat.zero_le _⟩, by rw [hj]; exact ⟨Nat.zero_le _, Nat.zero_le _, Nat.zero_le _⟩, hs, by rw [hj]; exact Nat.zero_le _, by rw [hj]; exact Nat.zero_le _, hf⟩
 | rising d k hj hu hk hdk =>
  obtain ⟨⟨txs, q, a, u, hL, h2⟩, h3⟩ := hu
  obtain ⟨b1, b2⟩ := scan_bounds hL.scan
  obtain ⟨ho, hlen⟩ := chk_ok (newestL_copies hL.goods2) b1 b2
  refine ⟨?_, by rw [hj]; exact ⟨Nat.zero_le _, Nat.zero_le _, Nat.zero_le _⟩, by rw [hj]; exact ⟨Nat.zero_le _, Nat.zero_le _, Nat.zero_le _⟩, hs, by rw [hj]; exact Nat.zero_le _, by rw [hj]; exact Nat.zero_le _, hf⟩
  rw [hdk]
  exact (run_good _ hL.good (fun x hx => ho x (List.mem_of_mem_take hx)) (by rw [hL.clean, List.length_nil, List.length_take]; omega)).1
section
variable {TJ Tt Ti : TypeId} {S : List Nat} {w0 w : World} {g : Nat} {v : JV} {j : Jn} {ds fs : List TV} {MD MU T A L : List Ent} {R R2 : List Rd}
theorem goodD_len {d : Dsk} (h : goodD d = true) : d.safe.length <= 8796093022208 /\ d.writes.length <= 5864062014805 := by
 obtain ⟨h1, h2, _⟩ := (goodD_iff d).1 h
 omega
theorem St.jDisk (X : St S w0 w L R) (hg : goodD j.disk = true) (h : ∀ r ∈ jRds v j ds fs, r ∈ R) : RDisk w (.agg #[.slice v.sf.a j.disk.safe.length v.sf.c, .slice v.wr.a j.disk.writes.length v.wr.c]) j.disk :=
 X.dskM (goodD_len hg).1 (goodD_len hg).2 (fun r hr => h r (by
  simp only [dskR, List.mem_cons, List.not_mem_nil, or_false] at hr
  rcases hr with rfl | rfl
  ·exact .head _
  ·exact .tail _ (.head _)))
theorem St.jNow (X : St S w0 w L R) (hs : JSz j) (h : ∀ r ∈ jRds v j ds fs, r ∈ R) : RTxn w (.agg #[.int .i64 j.now.seq, .slice v.nm.a j.now.mt.length v.nm.c, .slice v.nd.a j.now.dt.length v.nd.c, .slice v.nr.a j.now.rev.length v.nr.c, .bool j.now.h0.on, .int .i64 j.now.h0.left, .bool j.now.h1.on, .int .i64 j.now.h1.left, .bool j.now.h2.on, .int .i64 j.now.h2.left]) j.now := by
 obtain ⟨h1, h2, h3⟩ := hs.now
 exact ⟨_, _, _, rfl, (X.rd _ (h _ (.tail _ (.tail _ (.head _))))).1, (X.rd _ (h _ (.tail _ (.tail _ (.tail _ (.head _)))))).1, (X.rd _ (h _ (.tail _ (.tail _ (.tail _ (.tail _ (.head _))))))).1, by omega, by omega, by omega⟩
theorem St.jIn {xs : List TV} (X : St S w0 w L R) (hf : ∀ x ∈ xs, x.fits) (h : ∀ r ∈ inR xs, r ∈ R) : ∀ x ∈ xs, x.ok w := fun x hx => by
 have hm := fun r hr => (X.rd r (h r (List.mem_flatMap.2 ⟨x, hx, hr⟩))).1
 exact ⟨x.m.val, x.d.val, x.r.val, rfl, hm _ (.head _), hm _ (.tail _ (.head _)), hm _ (.tail _ (.tail _ (.head _))), hf x hx⟩
theorem jRds_in : ∀ r ∈ inR fs ++ inR ds, r ∈ jRds v j ds fs := fun r hr => by
 unfold jRds
 simp only [List.mem_cons]
 exact .inr (.inr (.inr (.inr (.inr (.inr (.inr (.inr (.inr (.inr hr)))))))))
theorem St.jDone (X : St S w0 w (A ++ (MD ++ T)) R) (hm : JFm Tt Ti v j ds fs MD MU) (hs : JSz j) (h : ∀ r ∈ jRds v j ds fs, r ∈ R) : RTxns w (.slice v.dn.a j.done.length v.dn.c) j.done := by
 refine ⟨ds, X.ownORd hm.dn, hm.dmap, X.jIn hm.dfit (fun r hr => h r (jRds_in r (List.mem_append_right _ hr))), ?_⟩
 have := congrArg List.length hm.dmap
 rw [List.length_map] at this
 have := hs.done
 omega
theorem Slot.form {α : Type} {f : α -> List Value} {B : Nat} {w : World} {v v' : Value} {l l' : List α} (h : Slot f B w v v' l l') (hv : RL f w v l) : ∃ a c, v' = .slice a l'.length c := by
 obtain ⟨a, c, h1, _⟩ := (h.read hv).form
 exact ⟨a, c, h1⟩
theorem St.addNewD (X : St S w0 w L R) {w' : World} (hb : Below w.heap.size w w') {as_ aw : Option Addr} {cs cw : Nat} {v' : Value} {d d' : Dsk} (h : NewD w.heap.size w' (.agg #[.slice as_ d.safe.length cs, .slice aw d.writes.length cw]) v' d d') (hR : ∀ r ∈ dskR as_ cs aw cw d, r ∈ R) :
    ∃ as2 cs2 aw2 cw2, v' = .agg #[.slice as2 d'.safe.length cs2, .slice aw2 d'.writes.length cw2] /\ St S w0 w' L (Rd.of strC (.slice as2 d'.safe.length cs2) d'.safe :: Rd.of wrC (.slice aw2 d'.writes.length cw2) d'.writes :: R) := by
 obtain ⟨vs, vw, vs', vw', h1, rfl, h3, h4⟩ := h
 simp only [Value.agg.injEq, Array.mk.injEq, List.cons.injEq, and_true] at h1
 obtain ⟨rfl, rfl⟩ := h1
 have X1 := X.call hb
 have hB : ∀ e ∈ L, e.g < w.heap.size := fun e he => (X.blk e he).lt
 have r1 := hR _ (.head _)
 have r2 := hR _ (.tail _ (.head _))
 obtain ⟨a2, c2, rfl⟩ := h3.form (X1.read r1)
 obtain ⟨a3, c3, rfl⟩ := h4.form (X1.read r2)
 exact ⟨a2, c2, a3, c3, rfl, (X1.addSlot hB h4 r2).addSlot hB h3 (.tail _ r1)⟩
theorem jRds_dsk : ∀ r ∈ dskR v.sf.a v.sf.c v.wr.a v.wr.c j.disk, r ∈ jRds v j ds fs := fun r hr => by
 simp only [dskR, List.mem_cons, List.not_mem_nil, or_false] at hr
 rcases hr with rfl | rfl
 ·exact .head _
 ·exact .tail _ (.head _)
def nilRd : Rd := ⟨.slice none 0 0, 0, []⟩
theorem St.addNil (X : St S w0 w L R) : St S w0 w L (nilRd :: R) := X.addR ⟨none, 0, rfl, Nat.le_refl _, by unfold maxLen; omega, .inl rfl⟩ (.inl rfl)
def nilAC : AC := ⟨none, 0⟩
def zeroV (sf wr : AC) : JV := ⟨sf, wr, nilAC, nilAC, nilAC, nilAC, nilAC, nilAC, nilAC, nilAC, nilAC, nilAC⟩
theorem St.rds (X : St S w0 w L R) (h : ∀ r ∈ R2, r ∈ R) : St S w0 w L R2 := ⟨X.mv, X.nd, X.blk, X.own, fun r hr => X.rd r (h r hr)⟩
theorem jRds_sub {R : List Rd} (h1 : Rd.of strC (.slice v.sf.a j.disk.safe.length v.sf.c) j.disk.safe ∈ R) (h2 : Rd.of wrC (.slice v.wr.a j.disk.writes.length v.wr.c) j.disk.writes ∈ R)
    (h3 : Rd.of cpyC (.slice v.nm.a j.now.mt.length v.nm.c) j.now.mt ∈ R) (h4 : Rd.of cpyC (.slice v.nd.a j.now.dt.length v.nd.c) j.now.dt ∈ R) (h5 : Rd.of intC (.slice v.nr.a j.now.rev.length v.nr.c) j.now.rev ∈ R)
    (h6 : Rd.of cpyC (.slice v.sm.a j.sealed.mt.length v.sm.c) j.sealed.mt ∈ R) (h7 : Rd.of cpyC (.slice v.sd.a j.sealed.dt.length v.sd.c) j.sealed.dt ∈ R) (h8 : Rd.of intC (.slice v.sr.a j.sealed.rev.length v.sr.c) j.sealed.rev ∈ R)
    (h9 : Rd.of stpC (.slice v.st.a j.steps.length v.st.c) j.steps ∈ R) (h10 : Rd.of tvC (.slice v.ft.a j.found.txns.length v.ft.c) fs ∈ R) (h11 : ∀ r ∈ inR fs, r ∈ R) (h12 : ∀ r ∈ inR ds, r ∈ R) (h13 : ∀ r ∈ R2, r ∈ R) : ∀ r ∈ jRds v j ds fs ++ R2, r ∈ R := fun r hr => by
 rcases List.mem_append.1 hr with hr | hr
 ·unfold jRds at hr
  simp only [List.mem_cons, List.mem_append] at hr
  rcases hr with rfl | rfl | rfl | rfl | rfl | rfl | rfl | rfl | rfl | rfl | hr | hr
  ·exact h1
  ·exact h2
  ·exact h3
  ·exact h4
  ·exact h5
  ·exact h6
  ·exact h7
  ·exact h8
  ·exact h9
  ·exact h10
  ·exact h11 r hr
  ·exact h12 r hr
 ·exact h13 r hr
theorem inF_in : ∀ r ∈ inR fs, r ∈ jRds v j ds fs ++ R2 := fun r hr => List.mem_append_left _ (jRds_in r (List.mem_append_left _ hr))
theorem inD_in : ∀ r ∈ inR ds, r ∈ jRds v j ds fs ++ R2 := fun r hr => List.mem_append_left _ (jRds_in r (List.mem_append_right _ hr))
theorem St.jDone2 {e0 : Ent} (X : St S w0 w (e0 :: (MD ++ MU ++ L)) R) (hm : JFm Tt Ti v j ds fs MD MU) (hs : JSz j) (h : ∀ r ∈ jRds v j ds fs, r ∈ R) : RTxns w (.slice v.dn.a j.done.length v.dn.c) j.done := by
 refine St.jDone (A := [e0]) (T := MU ++ L) (MU := MU) (by simpa using X) hm hs h
theorem St.jUsed {e0 : Ent} (X : St S w0 w (e0 :: (MD ++ MU ++ L)) R) (hm : JFm Tt Ti v j ds fs MD MU) : RL intC w (.slice v.us.a j.used.length v.us.c) j.used := by
 refine St.ownORd (L := e0 :: MD) (T := L) (M := MU) (by simpa using X) hm.us
theorem zero_in {q q2 : Int} {a b : AC} {r : Rd} (h1 : j.now = txn0 q) (h2 : j.sealed = txn0 q2) (h3 : j.steps = []) (h4 : j.found.txns = []) (hr : r ∈ jRds (zeroV a b) j [] []) :
    r = Rd.of strC (.slice a.a j.disk.safe.length a.c) j.disk.safe \/ r = Rd.of wrC (.slice b.a j.disk.writes.length b.c) j.disk.writes \/ r = nilRd := by
 unfold jRds at hr
 rw [h1, h2, h3, h4] at hr
 simp only [inR, List.flatMap_nil, List.append_nil, List.mem_cons, List.not_mem_nil, or_false] at hr
 rcases hr with h | h | h | h | h | h | h | h | h | h
 ·exact .inl h
 ·exact .inr (.inl h)
 all_goals exact .inr (.inr h)
theorem St.jZero {q q2 : Int} {a b : AC} (X : St S w0 w L (Rd.of strC (.slice a.a j.disk.safe.length a.c) j.disk.safe :: Rd.of wrC (.slice b.a j.disk.writes.length b.c) j.disk.writes :: R)) (h1 : j.now = txn0 q) (h2 : j.sealed = txn0 q2) (h3 : j.steps = []) (h4 : j.found.txns = []) {L2 : List Ent} (hL : L2.Sublist L) (hR : ∀ r ∈ R2, r ∈ R) :
    St S w0 w L2 (jRds (zeroV a b) j [] [] ++ R2) := by
 refine (X.addNil.sub hL).rds fun r hr => ?_
 rcases List.mem_append.1 hr with hr | hr
 ·rcases zero_in h1 h2 h3 h4 hr with rfl | rfl | rfl
  ·exact .tail _ (.head _)
  ·exact .tail _ (.tail _ (.head _))
  ·exact .head _
 ·exact .tail _ (.tail _ (.tail _ (hR r hr)))
end
theorem upd_arr (f : Int -> Int) {k : Nat} (hk : k < 12) (v : Int) : upd k [.int .i64 v] (arrL f) = arrL (setF f k v) := by
 have h : k = 0 \/ k = 1 \/ k = 2 \/ k = 3 \/ k = 4 \/ k = 5 \/ k = 6 \/ k = 7 \/ k = 8 \/ k = 9 \/ k = 10 \/ k = 11 := by omega
 rcases h with rfl | rfl | rfl | rfl | rfl | rfl | rfl | rfl | rfl | rfl | rfl | rfl <;> rfl
def oneF (k : Nat) : Int -> Int := fun x => if x < (k : Int) then 1 else 0
theorem oneF_step (k : Nat) : setF (oneF k) k 1 = oneF (k + 1) := by
 funext x
 unfold setF oneF
 by_cases h : x = (k : Int)
 ·rw [if_pos h, if_pos (by omega)]
 ·rw [if_neg h]
  by_cases h2 : x < (k : Int)
  ·rw [if_pos h2, if_pos (by omega)]
  ·rw [if_neg h2, if_neg (by omega)]
theorem oneF_full : arrL (oneF 12) = arrL (fun _ => 1) := rfl
def rvF12 (f : Int -> Int) (l : List Int) : Int -> Int := l.foldl (fun f b => setF f b 0) f
def mtF12 (f : Int -> Int) (l : List Cpy) : Int -> Int := l.foldl (fun f c => setF f c.block 1) f
theorem rvF12_step (f : Int -> Int) {l : List Int} {k : Nat} (hk : k < l.length) : rvF12 f (l.take (k + 1)) = setF (rvF12 f (l.take k)) l[k] 0 := by
 unfold rvF12; rw [List.take_succ_eq_append_getElem hk, List.foldl_append]; rfl
theorem mtF12_step (f : Int -> Int) {l : List Cpy} {k : Nat} (hk : k < l.length) : mtF12 f (l.take (k + 1)) = setF (mtF12 f (l.take k)) l[k].block 1 := by
 unfold mtF12; rw [List.take_succ_eq_append_getElem hk, List.foldl_append]; rfl
theorem riseR_step {l : List Txn} {k : Nat} (hk : k < l.length) : riseR (l.take (k + 1)) = mtF12 (rvF12 (riseR (l.take k)) (l[k]).rev) (l[k]).mt := by
 unfold riseR; rw [List.take_succ_eq_append_getElem hk, List.foldl_append]; rfl
theorem St.nm1 {S : List Nat} {w0 w : World} {a : Nat} {ca : List Value} {ta : TypeId} {L : List Ent} {R : List Rd} (_ : St S w0 w (⟨a, ca, ta⟩ :: L) R) : ∃ x1, x1 = a := ⟨_, rfl⟩
theorem St.nm2 {S : List Nat} {w0 w : World} {a b : Nat} {ca cb : List Value} {ta tb : TypeId} {L : List Ent} {R : List Rd} (_ : St S w0 w (⟨a, ca, ta⟩ :: ⟨b, cb, tb⟩ :: L) R) : ∃ x1 x2, x1 = a /\ x2 = b := ⟨_, _, rfl, rfl⟩
theorem RL.atTV {w : World} {a : Option Addr} {n cap : Nat} {l : List TV} (h : RL tvC w (.slice a n cap) l) {k : Nat} (hk : k < l.length) :
    ∃ b off, a = some ⟨b, off, none⟩ /\ w.cell? ⟨b, off + k * 10, none⟩ = some (.int .i64 l[k].t.seq) /\ w.cell? ⟨b, off + k * 10 + 1, none⟩ = some l[k].m.val /\ w.cell? ⟨b, off + k * 10 + 2, none⟩ = some l[k].d.val /\ w.cell? ⟨b, off + k * 10 + 3, none⟩ = some l[k].r.val /\ w.cell? ⟨b, off + k * 10 + 4, none⟩ = some (.bool l[k].t.h0.on) /\ w.cell? ⟨b, off + k * 10 + 5, none⟩ = some (.int .i64 l[k].t.h0.left) /\ w.cell? ⟨b, off + k * 10 + 6, none⟩ = some (.bool l[k].t.h1.on) /\ w.cell? ⟨b, off + k * 10 + 7, none⟩ = some (.int .i64 l[k].t.h1.left) /\ w.cell? ⟨b, off + k * 10 + 8, none⟩ = some (.bool l[k].t.h2.on) /\ w.cell? ⟨b, off + k * 10 + 9, none⟩ = some (.int .i64 l[k].t.h2.left) :=
 RL.at10 (fun x : TV => .int .i64 x.t.seq) (fun x => x.m.val) (fun x => x.d.val) (fun x => x.r.val) (fun x => .bool x.t.h0.on) (fun x => .int .i64 x.t.h0.left) (fun x => .bool x.t.h1.on) (fun x => .int .i64 x.t.h1.left) (fun x => .bool x.t.h2.on) (fun x => .int .i64 x.t.h2.left) (fun _ => rfl) h hk
theorem inR_mem {xs : List TV} {k : Nat} (hk : k < xs.length) : Rd.of cpyC xs[k].m.val xs[k].t.mt ∈ inR xs /\ Rd.of cpyC xs[k].d.val xs[k].t.dt ∈ inR xs /\ Rd.of intC xs[k].r.val xs[k].t.rev ∈ inR xs :=
 ⟨List.mem_flatMap.2 ⟨xs[k], List.getElem_mem hk, .head _⟩, List.mem_flatMap.2 ⟨xs[k], List.getElem_mem hk, .tail _ (.head _)⟩, List.mem_flatMap.2 ⟨xs[k], List.getElem_mem hk, .tail _ (.tail _ (.head _))⟩⟩
theorem good_blks {t : Txn} (h : goodT t = true) : (∀ b ∈ t.rev, 0 <= b /\ b < 12) /\ (∀ c ∈ t.mt, 0 <= c.block /\ c.block < 12) := by
 have g := goodT_of.1 h
 refine ⟨fun b hb => ?_, fun c hc => (cpy_ok g.mt hc).1⟩
 exact ((rise_pw t.rev).1 g.rev).2 b hb
theorem OwnO.drop {α : Type} {f : α -> List Value} {e : TypeId} {c : Nat} {a : Option Addr} {n cap : Nat} {l : List α} {M : List Ent} (hF : Flat f c) (h : OwnO f e c (.slice a n cap) l M) (hn : l.length ≠ 0) :
    ∃ b off, a = some ⟨b, off, none⟩ /\ n = l.length /\ n <= cap /\ ∀ A, A = some ⟨b, off + n * c, none⟩ \/ (cap - n = 0 /\ A = some ⟨b, off, none⟩) -> OwnO f e c (.slice A 0 (cap - n)) ([] : List α) M := by
 rcases h with ⟨_, h2, _⟩ | ⟨g, pre, cap2, rest, h1, h2, h3, h4, h5⟩
 ·rw [h2] at hn; exact absurd rfl hn
 ·simp only [Value.slice.injEq] at h1
  obtain ⟨rfl, rfl, rfl⟩ := h1
  have hll := flat_len hF.len l
  refine ⟨g, pre.length, rfl, rfl, h2, fun A hA => ?_⟩
  rcases hA with rfl | ⟨h0, rfl⟩
  ·rw [List.length_append, hll] at h4
   refine .inr ⟨g, pre ++ l.flatMap f, cap - l.length, rest, ?_, Nat.zero_le _, by omega, ?_, ?_⟩
   ·rw [List.length_append, hll]; rfl
   ·rw [List.flatMap_nil, List.nil_append, Nat.sub_mul]; omega
   ·rw [h5, List.flatMap_nil, List.nil_append, List.append_assoc]
  ·refine .inr ⟨g, pre, cap - l.length, l.flatMap f ++ rest, rfl, Nat.zero_le _, by omega, ?_, ?_⟩
   ·rw [h0, Nat.zero_mul]; exact Nat.zero_le _
   ·rw [h5, List.flatMap_nil, List.nil_append]
theorem St.addEmpty {S : List Nat} {w0 w : World} {L : List Ent} {R : List Rd} (X : St S w0 w L R) (A : Option Addr) {c : Nat} (hc : c <= maxLen) : St S w0 w L (⟨.slice A 0 c, 0, []⟩ :: R) := X.addR ⟨A, c, rfl, Nat.zero_le _, hc, .inl rfl⟩ (.inl rfl)
theorem St.addDrop {S : List Nat} {w0 w : World} {L : List Ent} {R : List Rd} (X : St S w0 w L R) {α : Type} {f : α -> List Value} {c : Nat} (hF : ∀ x, (f x).length = c) {b off n cap : Nat} {x : α} {r : List α} (h : Rd.of f (.slice (some ⟨b, off, none⟩) n cap) (x :: r) ∈ R) :
    St S w0 w L (Rd.of f (.slice (some ⟨b, off + c, none⟩) r.length (cap - 1)) r :: R) := by
 obtain ⟨h1, h2⟩ := X.rd _ h
 obtain ⟨a2, cap2, hv, i1, i2, h3⟩ := h1
 simp only [Rd.of, Value.slice.injEq] at hv
 obtain ⟨rfl, _, rfl⟩ := hv
 have hi1 : r.length + 1 <= cap := i1
 refine X.addR ⟨_, _, rfl, (show r.length <= cap - 1 by omega), by omega, ?_⟩ ?_
 ·rcases h3 with h3 | ⟨b3, off3, ha, hc⟩
  ·left
   have h3' : f x ++ r.flatMap f = [] := h3
   exact (List.append_eq_nil_iff.1 h3').2
  ·cases ha
   refine .inr ⟨b, off + c, rfl, fun j u hj => ?_⟩
   have := hc (c + j) u (show (f x ++ r.flatMap f)[c + j]? = some u by rw [List.getElem?_append_right (by rw [hF]; omega), hF, Nat.add_sub_cancel_left]; exact hj)
   rw [Nat.add_assoc]; exact this
 ·rcases h2 with h2 | h2
  ·left
   have h2' : f x ++ r.flatMap f = [] := h2
   exact (List.append_eq_nil_iff.1 h2').2
  ·exact .inr fun b' hb e he => by
     cases hb
     exact h2 b rfl e he
theorem inR_snoc (ds : List TV) (y : TV) : inR (ds ++ [y]) = inR ds ++ [Rd.of cpyC y.m.val y.t.mt, Rd.of cpyC y.d.val y.t.dt, Rd.of intC y.r.val y.t.rev] := by unfold inR; rw [List.flatMap_append]; simp
theorem in_snoc {ds : List TV} {y : TV} {R : List Rd} (h0 : ∀ r ∈ inR ds, r ∈ R) (h1 : Rd.of cpyC y.m.val y.t.mt ∈ R) (h2 : Rd.of cpyC y.d.val y.t.dt ∈ R) (h3 : Rd.of intC y.r.val y.t.rev ∈ R) : ∀ r ∈ inR (ds ++ [y]), r ∈ R := fun r hr => by
 rw [inR_snoc] at hr
 rcases List.mem_append.1 hr with hr | hr
 ·exact h0 r hr
 ·simp only [List.mem_cons, List.not_mem_nil, or_false] at hr
  rcases hr with rfl | rfl | rfl
  ·exact h1
  ·exact h2
  ·exact h3
theorem fit_snoc {ds : List TV} {y : TV} (h0 : ∀ x ∈ ds, x.fits) (h : y.fits) : ∀ x ∈ ds ++ [y], x.fits := fun x hx => by
 rcases List.mem_append.1 hx with hx | hx
 ·exact h0 x hx
 ·rw [List.mem_singleton.1 hx]; exact h
end Wb
namespace Go.Proofs.YtjhmfljlclajnadGreatDoor
open Go.RowKit Wb
instance : AggT Tryz.prog 43 10 := ⟨⟨_, Tryz.underlying43, rfl⟩, by kernel_rfl⟩
instance : ZeroT Tryz.prog 43 [.int .i64 0, .slice none 0 0, .slice none 0 0, .slice none 0 0, .bool false, .int .i64 0, .bool false, .int .i64 0, .bool false, .int .i64 0] := ⟨by kernel_rfl⟩
instance : AggT Tryz.prog 63 2 := ⟨⟨_, Tryz.underlying63, rfl⟩, by kernel_rfl⟩
instance : ZeroT Tryz.prog 63 [.int .i64 0, .string ⟨#[]⟩] := ⟨by kernel_rfl⟩
instance : AggT Tryz.prog 40 2 := ⟨⟨_, Tryz.underlying40, rfl⟩, by kernel_rfl⟩
instance : AggT Tryz.prog 34 2 := ⟨⟨_, Tryz.underlying34, rfl⟩, by kernel_rfl⟩
instance : ZeroT Tryz.prog 34 [.int .i64 0, .int .i64 0] := ⟨by kernel_rfl⟩
instance : AggT Tryz.prog 58 2 := ⟨⟨_, Tryz.underlying58, rfl⟩, by kernel_rfl⟩
instance : ZeroT Tryz.prog 58 [.slice none 0 0, .slice none 0 0] := ⟨by kernel_rfl⟩
instance : AggT Tryz.prog 118 3 := ⟨⟨_, Tryz.underlying118, rfl⟩, by kernel_rfl⟩
instance : ZeroT Tryz.prog 118 [.int .i64 0, .int .i64 0, .string ⟨#[]⟩] := ⟨by kernel_rfl⟩
instance : AggT Tryz.prog 32 3 := ⟨⟨_, Tryz.underlying32, rfl⟩, by kernel_rfl⟩
instance : ZeroT Tryz.prog 32 [.int .i64 0, .int .i64 0, .string ⟨#[]⟩] := ⟨by kernel_rfl⟩
instance : AggT Tryz.prog 29 5 := ⟨⟨_, Tryz.underlying29, rfl⟩, by kernel_rfl⟩
instance : ZeroT Tryz.prog 29 [.int .i64 0, .int .i64 0, .int .i64 0, .int .i64 0, .string ⟨#[]⟩] := ⟨by kernel_rfl⟩
instance : AggT Tryz.prog 69 3 := ⟨⟨_, Tryz.underlying69, rfl⟩, by kernel_rfl⟩
instance : ZeroT Tryz.prog 69 [.slice none 0 0, .int .i64 0, .int .i64 0] := ⟨by kernel_rfl⟩
instance : AggT Tryz.prog 88 5 := ⟨⟨_, Tryz.underlying88, rfl⟩, by kernel_rfl⟩
instance : ZeroT Tryz.prog 88 [.int .i64 0, .int .i64 0, .int .i64 0, .slice none 0 0, .slice none 0 0] := ⟨by kernel_rfl⟩
instance : AggT Tryz.prog 61 2 := ⟨⟨_, Tryz.underlying61, rfl⟩, by kernel_rfl⟩
instance : OneT Tryz.prog 3 := ⟨⟨_, Tryz.underlying3, rfl⟩, by kernel_rfl⟩
instance : ZeroT Tryz.prog 3 [.int .i64 0] := ⟨by kernel_rfl⟩
instance : OneT Tryz.prog 4 := ⟨⟨_, Tryz.underlying4, rfl⟩, by kernel_rfl⟩
instance : ZeroT Tryz.prog 4 [.bool false] := ⟨by kernel_rfl⟩
instance : OneT Tryz.prog 9 := ⟨⟨_, Tryz.underlying9, rfl⟩, by kernel_rfl⟩
instance : ZeroT Tryz.prog 9 [.string ⟨#[]⟩] := ⟨by kernel_rfl⟩
instance : OneT Tryz.prog 30 := ⟨⟨_, Tryz.underlying30, rfl⟩, by kernel_rfl⟩
instance : OneT Tryz.prog 37 := ⟨⟨_, Tryz.underlying37, rfl⟩, by kernel_rfl⟩
instance : ZeroT Tryz.prog 37 [.slice none 0 0] := ⟨by kernel_rfl⟩
instance : OneT Tryz.prog 38 := ⟨⟨_, Tryz.underlying38, rfl⟩, by kernel_rfl⟩
instance : ZeroT Tryz.prog 38 [.slice none 0 0] := ⟨by kernel_rfl⟩
instance : OneT Tryz.prog 65 := ⟨⟨_, Tryz.underlying65, rfl⟩, by kernel_rfl⟩
instance : ZeroT Tryz.prog 65 [.slice none 0 0] := ⟨by kernel_rfl⟩
instance : OneT Tryz.prog 67 := ⟨⟨_, Tryz.underlying67, rfl⟩, by kernel_rfl⟩
instance : ZeroT Tryz.prog 67 [.slice none 0 0] := ⟨by kernel_rfl⟩
instance : OneT Tryz.prog 86 := ⟨⟨_, Tryz.underlying86, rfl⟩, by kernel_rfl⟩
instance : OneT Tryz.prog 55 := ⟨⟨_, Tryz.underlying55, rfl⟩, by kernel_rfl⟩
instance : ZeroT Tryz.prog 55 [.slice none 0 0] := ⟨by kernel_rfl⟩
instance : OneT Tryz.prog 56 := ⟨⟨_, Tryz.underlying56, rfl⟩, by kernel_rfl⟩
instance : FieldT Tryz.prog 43 0 0 := ⟨fun _ _ _ => by kernel_rfl⟩
instance : FieldT Tryz.prog 43 1 1 := ⟨fun _ _ _ => by kernel_rfl⟩
instance : FieldT Tryz.prog 43 2 2 := ⟨fun _ _ _ => by kernel_rfl⟩
instance : FieldT Tryz.prog 43 3 3 := ⟨fun _ _ _ => by kernel_rfl⟩
instance : FieldT Tryz.prog 43 4 4 := ⟨fun _ _ _ => by kernel_rfl⟩
instance : FieldT Tryz.prog 40 0 0 := ⟨fun _ _ _ => by kernel_rfl⟩
instance : FieldT Tryz.prog 40 1 1 := ⟨fun _ _ _ => by kernel_rfl⟩
instance : FieldT Tryz.prog 63 0 0 := ⟨fun _ _ _ => by kernel_rfl⟩
instance : FieldT Tryz.prog 63 1 1 := ⟨fun _ _ _ => by kernel_rfl⟩
instance : FieldT Tryz.prog 29 0 0 := ⟨fun _ _ _ => by kernel_rfl⟩
instance : FieldT Tryz.prog 29 1 1 := ⟨fun _ _ _ => by kernel_rfl⟩
instance : FieldT Tryz.prog 29 2 2 := ⟨fun _ _ _ => by kernel_rfl⟩
instance : FieldT Tryz.prog 29 3 3 := ⟨fun _ _ _ => by kernel_rfl⟩
instance : FieldT Tryz.prog 29 4 4 := ⟨fun _ _ _ => by kernel_rfl⟩
instance : FieldT Tryz.prog 32 0 0 := ⟨fun _ _ _ => by kernel_rfl⟩
instance : FieldT Tryz.prog 32 1 1 := ⟨fun _ _ _ => by kernel_rfl⟩
instance : FieldT Tryz.prog 32 2 2 := ⟨fun _ _ _ => by kernel_rfl⟩
instance : FieldT Tryz.prog 118 0 0 := ⟨fun _ _ _ => by kernel_rfl⟩
instance : FieldT Tryz.prog 118 1 1 := ⟨fun _ _ _ => by kernel_rfl⟩
instance : FieldT Tryz.prog 118 2 2 := ⟨fun _ _ _ => by kernel_rfl⟩
instance : FieldT Tryz.prog 34 0 0 := ⟨fun _ _ _ => by kernel_rfl⟩
instance : FieldT Tryz.prog 34 1 1 := ⟨fun _ _ _ => by kernel_rfl⟩
instance : FieldT Tryz.prog 69 0 0 := ⟨fun _ _ _ => by kernel_rfl⟩
instance : FieldT Tryz.prog 69 1 1 := ⟨fun _ _ _ => by kernel_rfl⟩
instance : FieldT Tryz.prog 69 2 2 := ⟨fun _ _ _ => by kernel_rfl⟩
instance : FieldT Tryz.prog 58 0 0 := ⟨fun _ _ _ => by kernel_rfl⟩
instance : FieldT Tryz.prog 58 1 1 := ⟨fun _ _ _ => by kernel_rfl⟩
instance : FieldT Tryz.prog 61 0 0 := ⟨fun _ _ _ => by kernel_rfl⟩
instance : FieldT Tryz.prog 61 1 1 := ⟨fun _ _ _ => by kernel_rfl⟩
instance : FieldT Tryz.prog 71 0 0 := ⟨fun _ _ _ => by kernel_rfl⟩
instance : FieldT Tryz.prog 71 1 2 := ⟨fun _ _ _ => by kernel_rfl⟩
instance : FieldT Tryz.prog 71 2 3 := ⟨fun _ _ _ => by kernel_rfl⟩
instance : FieldT Tryz.prog 71 3 5 := ⟨fun _ _ _ => by kernel_rfl⟩
instance : FieldT Tryz.prog 71 4 15 := ⟨fun _ _ _ => by kernel_rfl⟩
instance : FieldT Tryz.prog 71 5 25 := ⟨fun _ _ _ => by kernel_rfl⟩
instance : FieldT Tryz.prog 71 6 26 := ⟨fun _ _ _ => by kernel_rfl⟩
instance : FieldT Tryz.prog 71 7 27 := ⟨fun _ _ _ => by kernel_rfl⟩
instance : FieldT Tryz.prog 71 8 39 := ⟨fun _ _ _ => by kernel_rfl⟩
instance : FieldT Tryz.prog 71 9 51 := ⟨fun _ _ _ => by kernel_rfl⟩
instance : FieldT Tryz.prog 71 10 52 := ⟨fun _ _ _ => by kernel_rfl⟩
instance : FieldT Tryz.prog 71 11 53 := ⟨fun _ _ _ => by kernel_rfl⟩
instance : FieldT Tryz.prog 71 12 55 := ⟨fun _ _ _ => by kernel_rfl⟩
instance : FieldT Tryz.prog 71 13 56 := ⟨fun _ _ _ => by kernel_rfl⟩
instance : FieldT Tryz.prog 71 14 59 := ⟨fun _ _ _ => by kernel_rfl⟩
instance : FieldT Tryz.prog 71 15 60 := ⟨fun _ _ _ => by kernel_rfl⟩
end Go.Proofs.YtjhmfljlclajnadGreatDoor
namespace Wb
open Go Go.RowKit
theorem at_want2 {P : Program} {ops : Array Oper} {rest : List Oper} {o : Oper} {a : Act} {Q : Exit -> Act -> World -> Prop} {w : World} (_ : Region.wanted o (yielded ops a.tmps) = true) (h : wpList P ops Q (o :: rest) a w) : wpList P ops Q (o :: rest) a w := h
theorem ZdL {A B : Prop} (k : B) (h : B -> A := by intro k; (refine at_mem rfl ?_; refine at_want2 (by kernel_rfl) ?_; (refine at_load rfl ?_; (first | refine c_load1 rfl _ _ rfl rfl X Zra ?_ | refine c_loadN rfl _ _ rfl rfl X Zrb ?_)); (simp only [Act.put, zA, zB, zC, zD, zE, zF, zG, Nat.reduceAdd])); exact k) : A := h k
theorem ZdS {A B : Prop} (k : B) (h : B -> A := by intro k; (refine at_mem rfl ?_; refine at_want2 (by kernel_rfl) ?_; (refine at_store rfl ?_; (first | refine c_store1 rfl _ _ _ rfl rfl Zev X rfl rfl Zpa ?_ | refine c_storeN rfl _ _ _ rfl rfl rfl X rfl rfl Zpa ?_)); intro w X2; (try simp only [upd] at X2); (simp only [Act.put, zA, zB, zC, zD, zE, zF, zG, Nat.reduceAdd]); revert X2; revert w); exact k) : A := h k
theorem ZdA {A B : Prop} (k : B) (h : B -> A := by intro k; (refine at_mem rfl ?_; refine at_want2 (by kernel_rfl) ?_; (first | refine m_alloc rfl _ rfl X ?_ | refine m_box rfl _ _ rfl Zev rfl X ?_); intro g w X2; (simp only [Act.put, zA, zB, zC, zD, zE, zF, zG, Nat.reduceAdd]); revert X2; revert g w); exact k) : A := h k
theorem ZhL {A B : Prop} (k : B) (h : B -> A := by intro k; (refine at_mem rfl ?_; refine at_want2 (by kernel_rfl) ?_; (refine at_load rfl ?_; (first | refine c_load1 rfl _ _ rfl rfl X Zrc ?_ | refine c_loadN rfl _ _ rfl rfl X Zrd ?_)); (simp only [Act.put, zA, zB, zC, zD, zE, zF, zG, Nat.reduceAdd])); exact k) : A := h k
theorem ZhS {A B : Prop} (k : B) (h : B -> A := by intro k; (refine at_mem rfl ?_; refine at_want2 (by kernel_rfl) ?_; (refine at_store rfl ?_; (first | refine c_store1 rfl _ _ _ rfl rfl Zev X rfl rfl Zpb ?_ | refine c_storeN rfl _ _ _ rfl rfl rfl X rfl rfl Zpb ?_)); intro w X2; (try simp only [upd] at X2); (simp only [Act.put, zA, zB, zC, zD, zE, zF, zG, Nat.reduceAdd]); revert X2; revert w); exact k) : A := h k
theorem ZhA {A B : Prop} (k : B) (h : B -> A := by intro k; (refine at_mem rfl ?_; refine at_want2 (by kernel_rfl) ?_; refine m_alloc rfl _ rfl X ?_; intro g w X2; (simp only [Act.put, zA, zB, zC, zD, zE, zF, zG, Nat.reduceAdd]); revert X2; revert g w); exact k) : A := h k
theorem ZyL {A B : Prop} (k : B) (h : B -> A := by intro k; (refine at_mem rfl ?_; refine at_want2 (by kernel_rfl) ?_; (refine at_load rfl ?_; (first | refine c_load1S X ?_ | refine c_loadNS X ?_)); (simp only [Act.put, zA, zB, zC, zD, zE, zF, zG, Nat.reduceAdd])); exact k) : A := h k
theorem ZyS {A B : Prop} (k : B) (h : B -> A := by intro k; (refine at_mem rfl ?_; refine at_want2 (by kernel_rfl) ?_; (refine at_store rfl ?_; (first | refine c_store1S X ?_ | refine c_storeNS X ?_)); intro w X2; (try simp only [upd] at X2); (simp only [Act.put, zA, zB, zC, zD, zE, zF, zG, Nat.reduceAdd]); revert X2; revert w); exact k) : A := h k
theorem ZyA {A B : Prop} (k : B) (h : B -> A := by intro k; (refine at_mem rfl ?_; refine at_want2 (by kernel_rfl) ?_; refine m_alloc rfl _ rfl X ?_; intro g w X2; (simp only [Act.put, zA, zB, zC, zD, zE, zF, zG, Nat.reduceAdd]); revert X2; revert g w); exact k) : A := h k
section
variable {P : Program} {ops : Array Oper} {Q : Exit -> Act -> World -> Prop} {L0 : List Ent} {R0 : List Rd} {brk eff lds : List Nat} {i : Nat} {r : List Nat} {o : Oper} {a : Act} {S : List Nat} {w0 w : World} {L M T : List Ent} {R : List Rd}
theorem q_appO (pre : List Ent) (hi : oAt ops i = some o) {s x : Operand} {t : TypeId} (ho : o.op = .call { callee := .builtin .append, args := #[s, x], argTypes := #[t, t] }) {α : Type} {f : α -> List Value} (y : α) {e : TypeId} {c bytes : Nat} [hT : SlT P t e c bytes] (hF : Flat f c)
    {g : Nat} {cs : List Value} {te : TypeId} (X : St S w0 w (⟨g, cs, te⟩ :: (pre ++ (M ++ T))) R) (hL : Under L0 R0 (⟨g, cs, te⟩ :: (pre ++ (M ++ T))) R) {v : Value} {l : List α} (hO : OwnO f e c v l M) (hs : EvR a s v) (hx : EvR a x (.slice (some ⟨g, 0, none⟩) 1 1)) (hc : f y = cs) (h20 : l.length + 1 <= 1048576)
    (hP : L0.Sublist pre) (he : eff.contains i = true) (hw : Region.wanted o (yielded ops a.tmps) = true)
    (h : ∀ a' cap' w' M', OwnO f e c (.slice a' (l.length + 1) cap') (l ++ [y]) M' -> St S w0 w' (pre ++ (M' ++ T)) R -> Under L0 R0 (pre ++ (M' ++ T)) R -> SQ P ops Q L0 R0 brk eff lds r (a.put o.dst (.slice a' (l.length + 1) cap')) w') : SQ P ops Q L0 R0 brk eff lds (i :: r) a w :=
 q_eff hi he hw fun K hk => by
  have hr : RL f w (.slice (some ⟨g, 0, none⟩) 1 1) [y] := X.rd0 (l2 := [y]) (by simp [hc]) rfl (Nat.le_refl _) (by unfold maxLen; omega)
  have hby := hT.by_
  obtain ⟨v', w', M', h1, h2, h3⟩ := X.tail.pushO (P := P) t o.type bytes hF hT.elem hO y hr (Nat.le_trans (Nat.mul_le_mul h20 hby) (by decide)) (by unfold maxLen; omega)
  obtain ⟨a', cap', rfl⟩ := h2.form
  have hl : (l ++ [y]).length = l.length + 1 := by simp
  rw [hl] at h1 h2
  have hU : Under L0 R0 (pre ++ (M' ++ T)) R := ⟨hP.trans (List.sublist_append_left _ _), hL.r⟩
  unfold Oper.wp execOp
  simp only [ho, resolve, invoke, builtin, Sem.run_bind, Sem.run_pure, Result.andThen_ok, List.map_toArray, List.map_cons, List.map_nil, hs.eval, hx.eval, h1]
  exact hk _ _ (fun _ _ => h3.keeps hU) (h a' cap' w' M' h2 h3 hU)
end
end Wb
namespace Go.Proofs.YtjhmfljlclajnadGreatDoor
open Go.RowKit Wb
instance : AggT Tryz.prog 71 61 := ⟨⟨_, Tryz.underlying71, rfl⟩, by kernel_rfl⟩
instance : AggT Tryz.prog 66 12 := ⟨⟨_, Tryz.underlying66, rfl⟩, by kernel_rfl⟩
instance : ZeroT Tryz.prog 66 [.int .i64 0, .int .i64 0, .int .i64 0, .int .i64 0, .int .i64 0, .int .i64 0, .int .i64 0, .int .i64 0, .int .i64 0, .int .i64 0, .int .i64 0, .int .i64 0] := ⟨by kernel_rfl⟩
structure JK : Prop where
 fit : ∀ (s : ByteArray) (w : World), s.size <= 9223372036854775807 -> Calls Tryz.prog 11 #[.string s] w fun e w' => e = .returned (.string (fit s)) /\ Below w.heap.size w w'
 dnew : ∀ (w : World), Calls Tryz.prog 34 #[] w fun e w' => ∃ vs, e = .returned (.agg #[vs, .slice none 0 0]) /\ Wb.Own strC (w.heap.size + 2) 9 1 w' vs (List.replicate 37 (Wb.fit ⟨#[]⟩)) /\ Below w.heap.size w w'
 put : ∀ (d : Dsk) (n : Int) (t : ByteArray) (v : Value) (w : World), RDisk w v d -> Calls Tryz.prog 36 #[v, .int .i64 n, .string t] w fun e w' => ∃ v', e = .returned (.tuple #[v', .int .i64 (putE d n t)]) /\ RDisk w' v' (putD d n t) /\ NewD w.heap.size w' v v' d (putD d n t) /\ Below w.heap.size w w'
 flush : ∀ (d : Dsk) (v : Value) (w : World), RDisk w v d -> Calls Tryz.prog 37 #[v] w fun e w' => ∃ v', e = .returned (.tuple #[v', .int .i64 (flushE d)]) /\ RDisk w' v' (flushD d) /\ NewD w.heap.size w' v v' d (flushD d) /\ Below w.heap.size w w'
 crash : ∀ (d : Dsk) (x : Int) (v : Value) (w : World), RDisk w v d -> x <= 9223372036854775807 -> Calls Tryz.prog 48 #[v, .int .i64 x] w fun e w' => ∃ v', e = .returned (.tuple #[v', .int .i64 (crashE d x)]) /\ RDisk w' v' (crashD d x) /\ NewD w.heap.size w' v v' d (crashD d x) /\ Below w.heap.size w w'
 read : ∀ (d : Dsk) (n : Int) (v : Value) (w : World), RDisk w v d -> Calls Tryz.prog 23 #[v, .int .i64 n] w fun e w' => e = .returned (.tuple #[.string (readD d n), .int .i64 (readE d n)]) /\ Below w.heap.size w w'
 enc : ∀ (m : Mrk) (v : Value) (w : World), RMark w v m -> Calls Tryz.prog 35 #[v] w fun e w' => e = .returned (.tuple #[.string (markS m), .int .i64 (markE m)]) /\ Below w.heap.size w w'
 free : ∀ (r : Ring) (w : World), 0 <= r.used -> r.used <= 24 -> Calls Tryz.prog 60 #[r.val] w fun e w' => e = .returned (.int .i64 (24 - r.used)) /\ Below w.heap.size w w'
 give : ∀ (r : Ring) (n : Int) (w : World), Calls Tryz.prog 56 #[r.val, .int .i64 n] w fun e w' => e = .returned (.tuple #[(giveR r n).val, .int .i64 (giveE r n)]) /\ Below w.heap.size w w'
 beg : ∀ (t : Txn) (h nn fr : Int) (vm vd vr : Value) (w : World), RTxn w (txnV t vm vd vr) t -> Calls Tryz.prog 59 #[txnV t vm vd vr, .int .i64 h, .int .i64 nn, .int .i64 fr] w fun e w' => e = .returned (.tuple #[txnV (begT t h nn fr) vm vd vr, .int .i64 (begE t h nn fr)]) /\ Below w.heap.size w w'
 stop : ∀ (t : Txn) (h : Int) (vm vd vr : Value) (w : World), RTxn w (txnV t vm vd vr) t -> Calls Tryz.prog 61 #[txnV t vm vd vr, .int .i64 h] w fun e w' => e = .returned (.tuple #[txnV (stopT t h) vm vd vr, .int .i64 (stopE t h)]) /\ Below w.heap.size w w'
 chg : ∀ (t : Txn) (h b : Int) (s : ByteArray) (vm vd vr : Value) (w : World), RTxn w (txnV t vm vd vr) t -> Calls Tryz.prog 62 #[txnV t vm vd vr, .int .i64 h, .int .i64 b, .string s] w fun e w' => ∃ vm' vd' vr', e = .returned (.tuple #[txnV (chgT t h b s) vm' vd' vr', .int .i64 (chgE t h b s)]) /\ NewT w.heap.size w' vm vd vr vm' vd' vr' t (chgT t h b s) /\ Below w.heap.size w w'
 fil : ∀ (t : Txn) (h b : Int) (s : ByteArray) (vm vd vr : Value) (w : World), RTxn w (txnV t vm vd vr) t -> Calls Tryz.prog 63 #[txnV t vm vd vr, .int .i64 h, .int .i64 b, .string s] w fun e w' => ∃ vm' vd' vr', e = .returned (.tuple #[txnV (filT t h b s) vm' vd' vr', .int .i64 (filE t h b s)]) /\ NewT w.heap.size w' vm vd vr vm' vd' vr' t (filT t h b s) /\ Below w.heap.size w w'
 rvk : ∀ (t : Txn) (h b : Int) (vm vd vr : Value) (w : World), RTxn w (txnV t vm vd vr) t -> Calls Tryz.prog 64 #[txnV t vm vd vr, .int .i64 h, .int .i64 b] w fun e w' => ∃ vm' vd' vr', e = .returned (.tuple #[txnV (rvkT t h b) vm' vd' vr', .int .i64 (rvkE t h b)]) /\ NewT w.heap.size w' vm vd vr vm' vd' vr' t (rvkT t h b) /\ Below w.heap.size w w'
 get : ∀ (l : List Cpy) (b : Int) (v : Value) (w : World), RL cpyC w v l -> l.length <= 5864062014805 -> Calls Tryz.prog 58 #[v, .int .i64 b] w fun e w' => e = .returned (.tuple #[.string ((getC l b).getD ⟨#[]⟩), .bool (getC l b).isSome]) /\ Below w.heap.size w w'
 opn : ∀ (t : Txn) (v : Value) (w : World), RTxn w v t -> Calls Tryz.prog 54 #[v] w fun e w' => e = .returned (.bool (openB t)) /\ Below w.heap.size w w'
 com : ∀ (r : Ring) (t : Txn) (v : Value) (w : World), RTxn w v t -> Sl w (flR 0).v 1 (flR 0).cs -> Calls Tryz.prog 55 #[r.val, v] w fun e w' => ∃ v', e = .returned (.tuple #[(comR r t).val, v', .int .i64 (comE r t)]) /\ Wb.Own stpC w.heap.size 118 3 w' v' (comL r t) /\ Below w.heap.size w w'
 newest : ∀ (l : List Txn), (∀ t ∈ l, goodT t = true) -> ∀ (v : Value) (w : World), RTxns w v l -> Calls Tryz.prog 57 #[v] w fun e w' => ∃ v', e = .returned v' /\ Wb.Own cpyC w.heap.size 63 2 w' v' (newestL l) /\ Below w.heap.size w w'
 check : ∀ (l : List Cpy) (p q : Int) (v : Value) (w : World), RL cpyC w v l -> l.length <= 5864062014805 -> Sl w (flR 0).v 1 (flR 0).cs -> Calls Tryz.prog 50 #[v, .int .i64 p, .int .i64 q] w fun e w' => ∃ v', e = .returned (.tuple #[v', .int .i64 (checkE l p q)]) /\ Wb.Own stpC w.heap.size 118 3 w' v' (checkL l p q) /\ Below w.heap.size w w'
 replay : ∀ (l : List Txn), (∀ t ∈ l, goodT t = true) -> ∀ (v : Value) (w : World), RTxns w v l -> Calls Tryz.prog 51 #[v] w fun e w' => ∃ v', e = .returned v' /\ Wb.Own cpyC w.heap.size 63 2 w' v' (newestL l) /\ Below w.heap.size w w'
 scan : ∀ (d : Dsk) (v : Value) (w : World), RDisk w v d -> Calls Tryz.prog 49 #[v] w fun e w' => ∃ vt, e = .returned (.tuple #[.agg #[vt, .int .i64 (scanF d).next, .int .i64 (scanF d).at_], .int .i64 (scanE d)]) /\ OTxns w.heap.size 43 63 3 w' vt (scanF d).txns /\ Below w.heap.size w w'
abbrev JF (g : Nat) (j : Jn) (M : List Ent) (Rj : List Rd) : Prop := JForm 71 43 3 g j M Rj
theorem jr_Ring {S : List Nat} {w0 w : World} {L : List Ent} {R : List Rd} {g : Nat} {j : Jn} {M : List Ent} {Rj : List Rd} (F : JF g j M Rj) (X : St S w0 w (M ++ L) (Rj ++ R)) :
    Calls Tryz.prog 9 #[.pointer (some ⟨g, 0, none⟩)] w fun e w' => e = .returned (.tuple #[j.ring.val, .int .i64 j.last, .bool j.down]) /\ St S w0 w' (M ++ L) (Rj ++ R) := by
 obtain ⟨v, ds, fs, MD, MU, hm, rfl, rfl⟩ := F
 rw [List.cons_append] at X ⊢
 unfold jCells at X ⊢
 generalize jRds v j ds fs ++ R = RR at *
 generalize MD ++ MU ++ L = LL at *
 go_enter Tryz.func9, Tryz.ntmps9
 go_upto_region 3 with (first
     | (refine ZeL ?_) | (refine ZeS ?_; clear X; intro w X) | (refine ZeA ?_; clear X; intro g w X))
 have X9 := X.perm (.swap _ _ _)
 clear X
 have X := X9
 clear X9
 (refine q_startS 1 [] [12] [3, 7, 11] [0, 1, 2, 3, 4, 5, 6, 7, 8, 9, 10, 11, 12, 13, 14] X ?_; clear X; intro hQ X hL; simp only [zF, zG] at hL; simp only [zF, zG])
 refine Zm ?_
 refine Zn ?_
 refine Zf ?_
 refine Zl ?_
 refine Zm ?_
 refine Zn ?_
 refine Zf ?_
 refine Zl ?_
 refine Zm ?_
 refine Zn ?_
 refine Zf ?_
 refine Zl ?_
 (refine Zs ?_; clear hL X; intro w X hL)
 refine Za ?_
 refine Za ?_
 refine q_nil ?_
 go_wp2
 exact m_ret3 rfl (.tmp rfl rfl) (.tmp rfl rfl) (.tmp rfl rfl) X (.tail _ (.head _)) rfl rfl ⟨rfl, X.sub (List.Sublist.cons_cons _ (List.sublist_cons_self _ _))⟩
theorem jr_crash (K : JK) {S : List Nat} {w0 w : World} {L : List Ent} {R : List Rd} {gj : Nat} {j : Jn} {M : List Ent} {Rj : List Rd} (F : JF gj j M Rj) (X : St S w0 w (M ++ L) (Rj ++ R)) (x : Int) (hx : x <= 9223372036854775807) :
    Calls Tryz.prog 25 #[.pointer (some ⟨gj, 0, none⟩), .int .i64 x] w fun e w' => ∃ M' Rj', e = .returned (.int .i64 (crashJ j x).2) /\ JF gj (crashJ j x).1 M' Rj' /\ St S w0 w' (M' ++ L) (Rj' ++ R) := by
 obtain ⟨v, ds, fs, MD, MU, hm, rfl, rfl⟩ := F
 have hsz := hm.inv.sz hm.sz
 have hdk := hsz.dk
 have hCr := fun v w (h : RDisk w v j.disk) => K.crash j.disk x v w h hx
 replace hCr := hid hCr
 rw [List.cons_append] at X
 unfold jCells at X
 by_cases hE : crashE j.disk x = 0
 ·have hJ : crashJ j x = ({ zeroJ (crashD j.disk x) j.last j.acts with down := true }, 0) := by unfold crashJ; rw [if_pos hE]
  have hI := inv_crash x hm.inv
  rw [hJ] at hI ⊢
  rw [hE] at hCr
  dsimp only at hI ⊢
  generalize crashD j.disk x = D at *
  have hLL : L.Sublist (MD ++ MU ++ L) := List.sublist_append_right _ _
  generalize MD ++ MU ++ L = LL at *
  go_enter Tryz.func25, Tryz.ntmps25
  go_upto_region 4 with (first
   | (refine ZeL ?_) | (refine ZeS ?_; clear X; intro w X) | (refine ZeA ?_; clear X; intro g w X)
   | (go_at_call 48; ((with_reducible refine (hCr.out _ _ (X.jDisk hdk (fun r hr => List.mem_append_left _ hr))).mono ?_); rintro e w1 ⟨v1, rfl, hr1, hn1, hb1⟩; obtain ⟨as2, cs2, aw2, cw2, rfl, X2⟩ := X.addNewD hb1 hn1 (fun r hr => List.mem_append_left _ (jRds_dsk r hr)); replace X := X2; clear X2 hb1 hn1 hr1)))
  (refine q_startS 2 [12] [12] [1, 5, 9] [0, 1, 2, 3, 4, 5, 6, 7, 8, 9, 10, 11, 12] X ?_; clear X; intro hQ X hL; simp only [zF, zG] at hL; simp only [zF, zG])
  refine Zm ?_
  refine Zl ?_
  refine Zm ?_
  refine Zn ?_
  refine Zf ?_
  refine Zl ?_
  refine Zm ?_
  refine Zn ?_
  refine Zf ?_
  refine Zl ?_
  refine Zg ?_
  refine Zn ?_
  (refine Zb ?_; clear X; intro w X)
  refine q_nil ?_
  go_wp2
  go_ret
  refine ⟨_, _, rfl, ⟨zeroV ⟨as2, cs2⟩ ⟨aw2, cw2⟩, [], [], [], [], ⟨.nil _ _ _, .nil _ _ _, rfl, rfl, (fun x hx => by cases hx), (fun x hx => by cases hx), hI, ⟨Nat.zero_le _, Nat.zero_le _⟩⟩, rfl, rfl⟩, ?_⟩
  exact X.jZero rfl rfl rfl rfl (List.Sublist.cons _ (List.Sublist.cons_cons _ hLL)) (fun r hr => List.mem_append_right _ hr)
 ·have hJ : crashJ j x = (j, crashE j.disk x) := by unfold crashJ; rw [if_neg hE]
  have hE2 : (crashE j.disk x != 0) = true := by simpa using hE
  rw [hJ]
  dsimp only
  generalize crashE j.disk x = cE at *
  go_enter Tryz.func25, Tryz.ntmps25
  go_wp2_with (first
   | (refine ZeL ?_) | (refine ZeS ?_; clear X; intro w X) | (refine ZeA ?_; clear X; intro g w X)
   | (go_at_call 48; ((with_reducible refine (hCr.out _ _ (X.jDisk hdk (fun r hr => List.mem_append_left _ hr))).mono ?_); rintro e w1 ⟨v1, rfl, hr1, hn1, hb1⟩; obtain ⟨as2, cs2, aw2, cw2, rfl, X2⟩ := X.addNewD hb1 hn1 (fun r hr => List.mem_append_left _ (jRds_dsk r hr)); replace X := X2; clear X2 hb1 hn1 hr1)))
  go_ret
  exact ⟨_, _, rfl, ⟨v, ds, fs, MD, MU, hm, rfl, rfl⟩, (X.sub (List.sublist_cons_self _ _)).rds (fun r hr => .tail _ (.tail _ hr))⟩
theorem jr_check (K : JK) {S : List Nat} {w0 w : World} {L : List Ent} {R : List Rd} {gj : Nat} {j : Jn} {M : List Ent} {Rj : List Rd} (F : JF gj j M Rj) (X : St S w0 w (M ++ L) (Rj ++ R)) (hF : flR 0 ∈ R) :
    Calls Tryz.prog 29 #[.pointer (some ⟨gj, 0, none⟩)] w fun e w' => ∃ M' Rj', e = .returned (.int .i64 (checkJ j).2) /\ JF gj (checkJ j).1 M' Rj' /\ St S w0 w' (M' ++ L) (Rj' ++ R) := by
 obtain ⟨v, ds, fs, MD, MU, hm, rfl, rfl⟩ := F
 have hsz := hm.inv.sz hm.sz
 rw [List.cons_append] at X
 unfold jCells at X
 by_cases hw : j.work = 0
 ·have hw2 : (j.work != 0) = false := by simpa using hw
  by_cases hd : j.done.length = 0
  ·have hJ : checkJ j = (j, 4) := by unfold checkJ; rw [if_neg (not_not_intro hw), if_pos hd]
   rw [hJ]
   dsimp only
   have hd2 : ((j.done.length : Int) == 0) = true := by rw [hd]; rfl
   clear hw hd
   go_enter Tryz.func29, Tryz.ntmps29
   go_wp2_with (first
    | (refine ZeL ?_) | (refine ZeS ?_; clear X; intro w X) | (refine ZeA ?_; clear X; intro g w X))
   go_ret
   exact ⟨_, _, rfl, ⟨v, ds, fs, MD, MU, hm, rfl, rfl⟩, X⟩
  ·obtain ⟨hu, hn, hs, hdn⟩ := hm.inv.up hw (.inr hd)
   have hJ : checkJ j = ({ j with after := giveR j.ring j.used.sum, steps := checkL (newestL j.done) j.ring.head (j.last + 1), pending := j.done.length, work := 2 }, 0) := by unfold checkJ; rw [if_neg (not_not_intro hw), if_neg hd]
   have hI := inv_check hdn hm.inv
   rw [hJ] at hI ⊢
   dsimp only at hI ⊢
   have hd2 : ((j.done.length : Int) == 0) = false := beq_eq_false_iff_ne.2 (by omega)
   have hgr := (goodR_iff _).1 hu.ring
   have hsum : ∀ k, 0 <= (j.used.take k).sum /\ (j.used.take k).sum <= 24 := fun k => by
    have := sum_take_le hu.pos k
    rw [hu.sum] at this
    omega
   have hst := fun k (hk : k < j.used.length) => sum_step hk
   have hg := newestL_copies hu.log.goods
   have hb := hu.log.bounds
   have hck := (chk_ok hg hb.1 hb.2.1).2
   have hul := hsz.used
   have hlast : IntKind.i64.wrap (j.last + 1) = j.last + 1 := IntWalk.i64_in _ (by have := hu.last; omega)
   have hNw := fun v w (h : RTxns w v j.done) => K.newest j.done hu.log.goods v w h
   have hCk := fun v w (h : RL cpyC w v (newestL j.done)) hF => K.check (newestL j.done) j.ring.head (j.last + 1) v w h (by have := copies_len hg; omega) hF
   have hGi := fun w => K.give j.ring j.used.sum w
   unfold Ring.val at hGi
   clear hw hd hu hn hs hdn hJ hg hb hgr
   generalize checkE (newestL j.done) j.ring.head (j.last + 1) = cE at *
   generalize checkL (newestL j.done) j.ring.head (j.last + 1) = ST at *
   generalize newestL j.done = NL at *
   generalize giveE j.ring j.used.sum = gE at *
   generalize giveR j.ring j.used.sum = gR at *
   replace hNw := hid hNw; replace hCk := hid hCk; replace hGi := hid hGi; replace hsum := hid hsum; replace hst := hid hst; replace hI := hid hI; replace hck := hid hck; replace hm := hid hm; replace hsz := hid hsz
   go_enter Tryz.func29, Tryz.ntmps29
   go_wp2_with (first
    | (refine ZeL ?_) | (refine ZeS ?_; clear X; intro w X) | (refine ZeA ?_; clear X; intro g w X))
   go_loopw [3, 24] (fun s i wr => ∃ k : Nat, k <= j.used.length /\ s = .int .i64 (j.used.take k).sum /\ i = .int .i64 k /\ St S w0 wr (⟨gj, jCells v j, 71⟩ :: (MD ++ MU ++ L)) (jRds v j ds fs ++ R)) (fun _ i _ => j.used.length - (intOf i).toNat)
   case atStart => exact ⟨0, Nat.zero_le _, rfl, rfl, X⟩
   case round =>
    clear X
    obtain ⟨k, hk, rfl, rfl, X⟩ := hrel
    by_cases hlt : k < j.used.length
    ·obtain ⟨b4, off4, hb4, d0⟩ := RL.at1 (fun x : Int => .int .i64 x) (fun _ => rfl) (X.jUsed hm.out) hlt
     rw [hb4]
     have h1 := hst.out k hlt
     have h2 := hsum.out (k + 1)
     have hwr : IntKind.i64.wrap ((j.used.take k).sum + j.used[k]) = (j.used.take (k + 1)).sum := by rw [h1]; exact IntWalk.i64_in _ (by rw [<- h1]; omega)
     clear h1 h2
     generalize j.used[k] = x at *
     generalize hs1 : (j.used.take (k + 1)).sum = s1 at *
     generalize (j.used.take k).sum = s0 at *
     replace hs1 := hid hs1
     go_wp2
     go_roundw
     case rel => exact ⟨k + 1, by omega, by rw [hs1.out], by go_num, X⟩
     case measure => simp [intOf]; omega
    ·obtain rfl : k = j.used.length := by omega
     rw [List.take_length]
     unfold jCells at X
     clear hst hsum hk hlt
     go_upto_region 12 with (first
      | (refine ZeL ?_) | (refine ZeS ?_; clear X; intro w X) | (refine ZeA ?_; clear X; intro g w X)
      | (go_at_call 56; ((with_reducible refine (hGi.out _).mono ?_); rintro e w1 ⟨rfl, hb1⟩; replace X := X.call hb1; clear hb1)))
     (refine q_startS 1 [22] [5, 16, 22] [4, 10, 14] [0, 1, 2, 3, 4, 6, 7, 8, 9, 10, 11, 12, 13, 14, 15, 5, 16, 17, 18, 19, 20, 21, 22] X ?_; clear X; intro hQ X hL; simp only [zF, zG] at hL; simp only [zF, zG])
     refine Zm ?_
     refine Zm ?_
     refine Zn ?_
     refine Zf ?_
     refine Zl ?_
     refine Zm ?_
     refine Zn ?_
     refine Zf ?_
     refine Zf ?_
     refine Zl ?_
     refine Zm ?_
     refine Zn ?_
     refine Zf ?_
     refine Zl ?_
     refine Zg ?_
     (refine q_callS 57 Tryz.func57 (hNw.out _ _ (X.jDone2 hm.out hsz.out (fun r hr => List.mem_append_left _ hr))) ?_; rintro e w1 ⟨v1, rfl, ho1, hb1⟩; obtain ⟨a1, c1, rfl⟩ := ho1.form; replace X := X.addOwn hb1 ho1; clear hb1 ho1; refine Zce ?_; clear hL; intro hL)
     (refine q_callS 50 Tryz.func50 (hCk.out _ _ X.r0 (X.rd _ (List.Mem.tail _ (List.mem_append_right _ hF))).1) ?_; rintro e w1 ⟨v3, rfl, ho1, hb1⟩; obtain ⟨a3, c3, rfl⟩ := ho1.form; replace X := X.addOwn hb1 ho1; clear hb1 ho1; refine Zce ?_; clear hL; intro hL)
     refine Zm ?_
     refine Zx ?_
     refine Zx ?_
     refine Zn ?_
     refine Zf ?_
     (refine Zb ?_; clear X; intro w X)
     refine q_nil ?_
     go_wp2_with (first
      | (refine ZeL ?_) | (refine ZeS ?_; clear X; intro w X) | (refine ZeA ?_; clear X; intro g w X))
     go_ret
     refine ⟨_, _, rfl, ⟨{ v with st := ⟨a3, c3⟩ }, ds, fs, MD, MU, ⟨hm.out.dn, hm.out.us, hm.out.dmap, hm.out.fmap, hm.out.dfit, hm.out.ffit, hI.out, ⟨hm.out.sz.1, ?_⟩⟩, rfl, rfl⟩, ?_⟩
     ·have := hck.out
      show ST.length <= 100
      omega
     ·exact X.rds (jRds_sub Zfl Zfl Zfl Zfl Zfl Zfl Zfl Zfl Zfl Zfl (fun r hr => .tail _ (.tail _ (inF_in r hr))) (fun r hr => .tail _ (.tail _ (inD_in r hr))) (fun r hr => .tail _ (.tail _ (List.mem_append_right _ hr))))
 ·have hJ : checkJ j = (j, 9) := by unfold checkJ; rw [if_pos hw]
  rw [hJ]
  dsimp only
  have hw2 : (j.work != 0) = true := by simpa using hw
  clear hw
  go_enter Tryz.func29, Tryz.ntmps29
  go_wp2_with (first
   | (refine ZeL ?_) | (refine ZeS ?_; clear X; intro w X) | (refine ZeA ?_; clear X; intro g w X))
  go_ret
  exact ⟨_, _, rfl, ⟨v, ds, fs, MD, MU, hm, rfl, rfl⟩, X⟩
end Go.Proofs.YtjhmfljlclajnadGreatDoor
