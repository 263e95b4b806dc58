/- A range over a function whose rounds are known one by one; lists of operations within a round. No program in sight. What the table of types says of the types that are laid into memory. What the table of types says of slices and their elements; further types. Where the fields of structs lie. The walks of slices.Chunk: its iterator hands out the parts in order. How Commit's list of steps comes about, write by write. No program in sight. The walks of seal's write, Newest, Check. The reference's small walks on copies. The walks of txn.Get and of in. Owned transactions, and lists of them. No program in sight. Rows of elements: what an insertion and a deletion leave. No program in sight. -/
import Derived.Test.YtjhmfljlclajnabDoorKSealCommits3
import Derived.RangeFuncNested
import Derived.OrdersIn
import Derived.Test.YtjhmfljlclajnabDoorKSealCommits2
import Derived.Test.YtjhmfljlclajnabDoorChecked
import Derived.Shelf.Abstract
import Derived.OwnWalkIn
import Derived.TacticsInMore
import Derived.LoopNIn
import Derived.LoopIn
import Derived.Test.YtjhmfljlclajnabDoorKSealCommits0
import Derived.Deep.QuietTactic
import Derived.BigQuiet
namespace Wb
open Go Go.RowKit
set_option linter.unusedVariables false
set_option linter.unusedSimpArgs false
abbrev FW : Fence := Fence.wide
/-- The iterator's word: yield is called for each of xs, in order; it leans on the blocks B. -/
def Iter (P : Program) (gf : Nat) (lb : Array Value) (xs : List Value) (B : List Nat) (w : World) : Prop :=
  ∀ (l : Nat) (J : Nat → World → Prop) (W : World), (∀ b ∈ B, W.heap[b]? = w.heap[b]?) → (∀ k A A', J k A → Below A.heap.size A A' → J k A') →
    (∀ k (hk : k < xs.length) A, J k A → YieldAt FW 0 P l #[xs[k]] A fun e A' => e = .returned (.bool true) ∧ J (k + 1) A' ∧ A.heap.size ≤ A'.heap.size ∧ ∀ b ∈ B, A'.heap[b]? = A.heap[b]?) →
    J 0 W → CallsIn FW 0 P gf (#[.func (.yield l) #[] #[]] ++ lb) W fun e W' => (∃ v, e = .returned v) ∧ J xs.length W'
section
variable {P : Program} {Q : Exit → Act → World → Prop} {a : Act} {w : World}
/-- What the walk of an assignment to the loop's left side comes to: the body, from whatever world the round begins in. -/
structure AtBody (W W1 : World) (p : Prop) : Prop where
  eq : W1 = W
  run : p
def BodyRun (P : Program) (body : Code) (w : World) (B : List Nat) (I : Nat → World → Prop) (k l : Nat) (a1 : Act) : Prop :=
  ∀ W2, w.heap.size ≤ W2.heap.size → I k W2 → body.wpIn (FW.inRound l) 0 P (fun e _ W' => e = .normal ∧ KeepsFrom w.heap.size W2 W' ∧ (∀ b ∈ B, W'.heap[b]? = W2.heap[b]?) ∧ I (k + 1) W') a1 W2
theorem wp_range {g : Operand} {p : Tmp} {assign body : Code} {gf : Nat} {lb : Array Value} {xs : List Value} {B : List Nat} (hg : a.eval g = .func (.func gf) #[] lb) (eg : ∀ args w, (callFunc gf args).run P w = .ok (.enter gf args) w)
    (hB : ∀ b ∈ B, b < w.heap.size) (hit : Iter P gf lb xs B w) (I : Nat → World → Prop) (hI : ∀ k A A', I k A → Below A.heap.size A A' → I k A')
    (hI2 : ∀ k A l o o', I k A → w.heap.size ≤ l → A.heap[l]? = some o → o.isCells = false → I k (A.putObj l o')) (h0 : I 0 w)
    (hround : ∀ k (hk : k < xs.length) l W, assign.wpIn (FW.inRound l) 0 P (Exit.then (fun a1 W1 => AtBody W W1 (BodyRun P body w B I k l a1)) (fun _ _ _ => False)) { tmps := a.tmps.setIfInBounds p xs[k], defers := [] } W)
    (hdone : ∀ D W, w.heap.size ≤ D → I xs.length W → W.heap[D]? = some (.deferred (some [])) → Q .normal { a with defers := { target := .collected D, args := #[] } :: a.defers } W) :
    (Code.rangeFunc g #[p] assign body).wp P Q a w := by
  refine (wpIn_wide (n := 0)).1 (wpIn_rangeFunc fun fn hfn => ?_)
  obtain ⟨rec, hrec⟩ : ∃ rec : LoopState → Option Code → Loop, rec = fun st pe => { state := st, pending := pe, fn, tmps := a.tmps, params := #[p], assign, body, defers := w.heap.size } := ⟨_, rfl⟩
  obtain ⟨W1, hW1⟩ : ∃ W1, (w.alloc (.deferred (some []))).alloc (.loop (rec .ready none)) = W1 := ⟨_, rfl⟩
  have hb1 : Below w.heap.size w W1 := by rw [← hW1]; exact bal (bal (b0 w) _) _
  have hL1 : W1.heap[w.heap.size + 1]? = some (.loop (rec .ready none)) := by
    rw [← hW1]; have := World.alloc_heap_new (w.alloc (.deferred (some []))) (.loop (rec .ready none)); rwa [World.size_alloc] at this
  have hK1 : W1.heap[w.heap.size]? = some (.deferred (some [])) := by
    rw [← hW1]; exact (Below.heap_alloc _ _ _ (by simp)).trans (World.alloc_heap_new w _)
  have hne : ∀ {W : World} {l : Nat} {o : Obj}, w.heap.size ≤ l → ∀ b ∈ B, (W.putObj l o).heap[b]? = W.heap[b]? := fun hl b hb => World.putObj_heap_other (by have := hB b hb; omega)
  -- the invariant with the two facts of book-keeping
  refine ⟨w.heap.size + 1, [{ target := .collected w.heap.size, args := #[] }], W1, { target := .fn (.func gf) lb, args := #[.func (.yield (w.heap.size + 1)) #[] #[]] }, W1, gf,
    #[.func (.yield (w.heap.size + 1)) #[] #[]] ++ lb, W1, ?_, ?_, fun _ _ => trivial, ?_, fun h => by simp [Fence.wide] at h, ?_⟩
  · rw [← hW1, hrec]; exact run_enterLoop_outer _ _ _ _ _
  · simp only [resolve, hg]
    simp [go_sem]
  · simp [invoke, go_sem, eg]
  refine (hit (w.heap.size + 1) (fun k W => I k W ∧ W.heap[w.heap.size + 1]? = some (.loop (rec .ready none)) ∧ W.heap[w.heap.size]? = some (.deferred (some [])) ∧ w.heap.size ≤ W.heap.size) W1
    (fun b hb => hb1.block b (hB b hb)) (fun k A A' h hb => ?_) (fun k hk A h => ?_) ⟨hI _ _ _ h0 hb1, hL1, hK1, hb1.size⟩).mono ?_
  · obtain ⟨h1, h2, h3, h4⟩ := h
    exact ⟨hI _ _ _ h1 hb, (hb.block _ (Array.getElem?_eq_some_iff.1 h2).1).trans h2, (hb.block _ (Array.getElem?_eq_some_iff.1 h3).1).trans h3, Nat.le_trans h4 hb.size⟩
  · obtain ⟨hi, hl, hk1, hsz⟩ := h
    have hlt : w.heap.size + 1 < A.heap.size := (Array.getElem?_eq_some_iff.1 hl).1
    have hy := run_yield (P := P) (args := #[xs[k]]) hl (by rw [hrec]; simp)
    rw [hrec] at hy
    have hl2 : (A.putObj (w.heap.size + 1) (.loop { rec .ready none with state := .busy })).heap[w.heap.size + 1]? = some (.loop { rec .ready none with state := .busy }) := World.putObj_heap_same hlt
    have hk2 : (A.putObj (w.heap.size + 1) (.loop { rec .ready none with state := .busy })).heap[w.heap.size]? = some (.deferred (some [])) := (World.putObj_heap_other (by omega)).trans hk1
    have hts : (#[p].zip #[xs[k]]).foldl (fun t (x : Tmp × Value) => t.setIfInBounds x.1 x.2) a.tmps = a.tmps.setIfInBounds p xs[k] := by simp
    refine ⟨fn, _, assign, body, hy, roundIn_of_wpIn hfn ?_⟩
    have hr0 := hround k hk (w.heap.size + 1) A
    rw [← hts] at hr0
    refine wpIn_mono hr0 ?_
    intro e a1 W1 hq
    cases e with
    | normal =>
      obtain ⟨rfl, hq⟩ := hq
      refine ⟨_, run_beginRound hl (by rw [hrec]), wpIn_mono (hq _ (by simpa using hsz) (hI2 _ _ _ _ _ hi (by omega) hl rfl)) ?_⟩
      rintro e a3 W3 ⟨rfl, hk3, hB3, hi3⟩
      have hl3 := hk3.same _ _ (by omega) hl2 rfl
      have hr := run_endRound (P := P) none hl3
      rw [hrec] at hr hl3 ⊢
      have hlt3 := (Array.getElem?_eq_some_iff.1 hl3).1
      refine ⟨_, _, hr, rfl, ⟨hI2 _ _ _ _ _ hi3 (by omega) hl3 rfl, World.putObj_heap_same hlt3, (World.putObj_heap_other (by omega)).trans (hk3.same _ _ (Nat.le_refl _) hk2 rfl), ?_⟩, ?_, fun b hb => ?_⟩
      · have := hk3.size; simp at this ⊢; omega
      · have := hk3.size; simp at this ⊢; omega
      · rw [hne (by omega) b hb, hB3 b hb]
        exact hne (by omega) b hb
    | _ => exact hq.elim
  · rintro e W2 ⟨⟨v, rfl⟩, hi, hl, hk, hsz⟩
    exact ⟨none, _, by have := run_endLoop (P := P) hl (by rw [hrec]; simp); rw [hrec] at this; exact this, hdone _ _ (Nat.le_refl _) (hI2 _ _ _ _ _ hi (by omega) hl rfl) ((World.putObj_heap_other (by omega)).trans hk)⟩

/-! ### Within a round an operation that is no defer statement is what it is elsewhere -/
theorem upon_in {F : Fence} {n : Nat} (hd : F.depth = none) (hf : ∀ f, F.fn f) (hF : ∀ m, Machine.fenced P F m) {o : Oper} {K : Act → World → Prop} : ∀ {r : Result Next}, o.upon P a K Q r → o.uponIn F n P a K Q r
  | .ok (.value v) w', h => h
  | .ok .skip w', h => h
  | .ok (.defer d) w', h => h
  | .ok (.enter f args) w', h => ⟨fun hh => (by rw [hd] at hh; cases hh), hf f, fun cs _ => by
      obtain ⟨e, w2, fr, h1, h2, h3⟩ := h cs
      refine ⟨e, w2, fr, ?_, ?_, h3⟩
      · cases e <;> exact h1
      · cases e with
        | returned v => exact (StepsIn.of_steps h2).mono fun m _ => hF m
        | panicked c => exact (StepsIn.of_steps h2).mono fun m _ => hF m
        | outgrown => exact h2⟩
  | .ok (.row row args) w', h => ⟨fun hh => (by rw [hd] at hh; cases hh), fun c cs _ => by
      obtain ⟨v, w2, h1, h2⟩ := h c cs
      exact ⟨v, w2, h1, (StepsIn.of_steps h2).mono fun m _ => hF m⟩⟩
  | .ok (.round ..) w', h => h.elim
  | .halt x w', h => by cases x <;> first | exact h | exact h.elim
/-- Is an operation no defer statement? -/
def noDefer : Oper → Bool := fun o => match o.op with | .defer _ => false | _ => true
theorem oper_in {F : Fence} {n : Nat} (hd : F.depth = none) (hf : ∀ f, F.fn f) (hF : ∀ m, Machine.fenced P F m) {o : Oper} (ho : noDefer o = true) {K : Act → World → Prop} (h : o.wp P a w K Q) : o.wpIn F n P a w K Q := by
  have hs : o.semAt F.round a.eval = execOp a.eval o := by
    cases hr : F.round with
    | none => simp [Oper.semAt]
    | some l => exact Oper.semAt_some l _ _ fun c hc => by unfold noDefer at ho; rw [hc] at ho; cases ho
  refine ⟨fun f _ => hf f, ?_⟩
  rw [hs]
  exact upon_in hd hf hF h
theorem list_in {F : Fence} {n : Nat} (hd : F.depth = none) (hf : ∀ f, F.fn f) (hF : ∀ m, Machine.fenced P F m) {ops : Array Oper} (hno : ∀ a w, ¬ Q .outgrown a w) : ∀ (l : List Oper) (a : Act) (w : World), l.all noDefer = true → wpList P ops Q l a w → wpListIn F n P ops Q l a w
  | [], _, _, _, h => h
  | o :: r, a, w, hn, h => by
    rw [List.all_cons, Bool.and_eq_true] at hn
    unfold wpList at h
    unfold wpListIn
    split at h
    · rename_i hw
      rw [if_pos hw]
      exact Oper.wpIn_mono (fun a w hh => list_in hd hf hF hno r a w hn.2 hh) (oper_in hd hf hF hn.1 (h.resolve_right fun hh => by obtain ⟨_, a, w, hq⟩ := hh; exact hno a w hq))
    · rename_i hw
      rw [if_neg hw]
      exact ⟨fun f _ => hf f, list_in hd hf hF hno r _ _ hn.2 h⟩
/-- A region within a round, walked as everywhere. -/
theorem region_in {l id : Nat} {ops : List Oper} (hn : ops.all noDefer = true) (hno : ∀ a w, ¬ Q .outgrown a w) (h : wpList P ops.toArray Q ops a w) : (Code.region id ops.toArray false).wpIn (FW.inRound l) 0 P Q a w :=
  wpIn_region_lit (list_in (F := FW.inRound l) rfl (fun _ => trivial) (fun m => fenced_wide P m) hno _ _ _ hn h)
end
section
variable {S : List Nat} {w0 W W' : World} {L L' : List Ent} {R R' : List Rd}
/-- From here on: what is known now may be written. -/
theorem St.restart (X : St S w0 W L R) : St (L.map Ent.g) W W L R := ⟨Mv.refl _ _, X.nd, X.blk, fun e he => .inl (List.mem_map_of_mem he), X.rd⟩
theorem St.back (X : St S w0 W L R) (Y : St (L.map Ent.g) W W' L' R') : St S w0 W' L' R' :=
  ⟨X.mv.then Y.mv fun k hk => by
      obtain ⟨e, he, rfl⟩ := List.mem_map.1 hk
      exact X.own e he, Y.nd, Y.blk, fun e he => by
      rcases Y.own e he with h | h
      · obtain ⟨e2, he2, heq⟩ := List.mem_map.1 h
        rw [← heq]; exact X.own e2 he2
      · exact .inr (Nat.le_trans X.mv.size h), Y.rd⟩
theorem St.keepsFrom (X : St S w0 W L R) (Y : St (L.map Ent.g) W W' L' R') (B : Nat) : KeepsFrom B W W' :=
  ⟨Y.mv.size, fun k o _ hk ho => by
    refine (Y.mv.block k (Array.getElem?_eq_some_iff.1 hk).1 fun hm => ?_).trans hk
    obtain ⟨e, he, rfl⟩ := List.mem_map.1 hm
    have := X.blk e he
    unfold Blk at this
    rw [this] at hk
    cases hk
    cases ho⟩
/-- What is no row of cells and is not known stays. -/
theorem St.other (X : St S w0 W L R) (Y : St (L.map Ent.g) W W' L' R') {D : Nat} {o : Obj} (hD : W.heap[D]? = some o) (ho : o.isCells = false) : W'.heap[D]? = some o := (X.keepsFrom Y 0).same D o (Nat.zero_le _) hD ho
theorem St.putO (X : St S w0 W L R) {l : Nat} {o : Obj} (o' : Obj) (hl : w0.heap.size ≤ l) (ho : W.heap[l]? = some o) (hc : o.isCells = false) (hS : l ∉ S) : St S w0 (W.putObj l o') L R := by
  have hne : ∀ {b : Nat} {cs t f}, W.heap[b]? = some (.cells cs t f) → b ≠ l := fun hb e => by
    rw [e, ho] at hb; cases hb; cases hc
  have hcell : ∀ {b j : Nat} {u : Value}, W.cell? ⟨b, j, none⟩ = some u → (W.putObj l o').cell? ⟨b, j, none⟩ = some u := fun {b j u} h => by
    obtain ⟨q, hq, hw⟩ := not_walk_of_cell h
    have hb : b ≠ l := fun e => by
      subst e
      unfold World.cell? at h
      rw [ho] at h
      cases o <;> simp_all [Obj.isCells]
    rw [← h]
    exact World.cell?_of_block (World.putObj_heap_other hb)
  refine ⟨⟨X.mv.os, X.mv.tape, X.mv.output, by simpa using X.mv.size, fun k hk hn => ?_⟩, X.nd, fun e he => ?_, X.own, fun r hr => ⟨?_, (X.rd r hr).2⟩⟩
  · rw [World.putObj_heap_other (by omega)]; exact X.mv.block k hk hn
  · have := X.blk e he
    unfold Blk at this ⊢
    rw [World.putObj_heap_other (hne this)]; exact this
  · obtain ⟨a, cap, hv, h1, h2, h3⟩ := (X.rd r hr).1
    exact ⟨a, cap, hv, h1, h2, h3.imp id fun ⟨b, off, ha, hc2⟩ => ⟨b, off, ha, fun j u hj => hcell (hc2 j u hj)⟩⟩
end

theorem St.gs6 {S : List Nat} {w0 w : World} {a b c d e f : Nat} {ca cb cc cd ce cf : List Value} {ta tb tc td te tf : TypeId} {L : List Ent} {R : List Rd} (_ : St S w0 w (⟨a, ca, ta⟩ :: ⟨b, cb, tb⟩ :: ⟨c, cc, tc⟩ :: ⟨d, cd, td⟩ :: ⟨e, ce, te⟩ :: ⟨f, cf, tf⟩ :: L) R) : ∃ x1 x2 x3 x4 x5 x6, x1 = a ∧ x2 = b ∧ x3 = c ∧ x4 = d ∧ x5 = e ∧ x6 = f := ⟨_, _, _, _, _, _, rfl, rfl, rfl, rfl, rfl, rfl⟩
theorem St.gs4 {S : List Nat} {w0 w : World} {a b c d : Nat} {ca cb cc cd : List Value} {ta tb tc td : TypeId} {L : List Ent} {R : List Rd} (_ : St S w0 w (⟨a, ca, ta⟩ :: ⟨b, cb, tb⟩ :: ⟨c, cc, tc⟩ :: ⟨d, cd, td⟩ :: L) R) : ∃ x1 x2 x3 x4, x1 = a ∧ x2 = b ∧ x3 = c ∧ x4 = d := ⟨_, _, _, _, rfl, rfl, rfl, rfl⟩
theorem St.front (pre : List Ent) {S : List Nat} {w0 w : World} {x : Ent} {L : List Ent} {R : List Rd} (X : St S w0 w (pre ++ x :: L) R) : St S w0 w (x :: (pre ++ L)) R := X.perm List.perm_middle
theorem St.gs2 {S : List Nat} {w0 w : World} {a b : Nat} {ca cb : List Value} {ta tb : TypeId} {L : List Ent} {R : List Rd} (_ : St S w0 w (⟨a, ca, ta⟩ :: ⟨b, cb, tb⟩ :: L) R) : ∃ x1 x2, x1 = a ∧ x2 = b := ⟨_, _, rfl, rfl⟩
theorem St.gs1 {S : List Nat} {w0 w : World} {a : Nat} {ca : List Value} {ta : TypeId} {L : List Ent} {R : List Rd} (_ : St S w0 w (⟨a, ca, ta⟩ :: L) R) : ∃ x1, x1 = a := ⟨_, rfl⟩
/-- Fewer blocks, fewer readings. -/
theorem St.less {S : List Nat} {w0 w : World} {L L2 : List Ent} {R R2 : List Rd} (X : St S w0 w L R) (hL : L2.Sublist L) (hR : ∀ r ∈ R2, r ∈ R) : St S w0 w L2 R2 :=
  ⟨X.mv, (hL.map _).nodup X.nd, fun x hx => X.blk x (hL.subset hx), fun x hx => X.own x (hL.subset hx), fun r hr => ⟨(X.rd r (hR r hr)).1, (X.rd r (hR r hr)).2.imp id fun h b hb x hx => h b hb x (hL.subset hx)⟩⟩
/-- A row of a call's own begins at the beginning of a block. -/
theorem own_base {α : Type} {f : α → List Value} {base : Nat} {e : TypeId} {c : Nat} {w : World} {v : Value} {l : List α} (hF : Flat f c) (h : Wb.Own f base e c w v l) (hl : 0 < l.length) : ∃ g cap, v = .slice (some ⟨g, 0, none⟩) l.length cap ∧ l.length ≤ cap ∧ cap ≤ maxLen := by
  obtain ⟨h1, h2⟩ := h
  rcases h2 with ⟨rfl, h0⟩ | ⟨g, cap, cur, rfl, hb, hg, hn, hc, hs, ht⟩
  · omega
  · exact ⟨g, cap, rfl, hn, hc⟩
/-- Part of a slice that is read. -/
theorem RL.part {α : Type} {f : α → List Value} {c : Nat} (hF : ∀ x, (f x).length = c) {w : World} {b off n cap : Nat} {l : List α} (h : RL f w (.slice (some ⟨b, off, none⟩) n cap) l) (j m : Nat) (hm : j + m ≤ l.length) : RL f w (.slice (some ⟨b, off + j * c, none⟩) m m) ((l.drop j).take m) := by
  obtain ⟨a, cap', hv, h1, h2, h3⟩ := h
  have hl : ((l.drop j).take m).length = m := by rw [List.length_take, List.length_drop]; omega
  refine ⟨_, m, by rw [hl], by rw [hl]; exact Nat.le_refl _, by omega, ?_⟩
  rcases h3 with h3 | ⟨b', off', ha, hc⟩
  · left
    have h4 := flat_len hF l
    rw [h3, List.length_nil] at h4
    have h5 := flat_len hF ((l.drop j).take m)
    rw [hl] at h5
    have : m * c = 0 := by
      rcases Nat.mul_eq_zero.1 h4.symm with h6 | h6
      · have : m = 0 := by omega
        rw [this, Nat.zero_mul]
      · rw [h6, Nat.mul_zero]
    rw [this] at h5
    exact List.length_eq_zero_iff.1 h5
  · right
    cases hv; cases ha
    refine ⟨b, off + j * c, rfl, fun i u hi => ?_⟩
    rw [Nat.add_assoc]
    apply hc
    have e : l.flatMap f = (l.take j).flatMap f ++ ((l.drop j).take m).flatMap f ++ ((l.drop j).drop m).flatMap f := by
      rw [← List.flatMap_append, ← List.flatMap_append, List.append_assoc, List.take_append_drop, List.take_append_drop]
    have hl2 : ((l.take j).flatMap f).length = j * c := by rw [flat_len hF, List.length_take]; congr 1; omega
    rw [e, List.append_assoc, List.getElem?_append_right (by omega), hl2, Nat.add_sub_cancel_left, List.getElem?_append_left (List.getElem?_eq_some_iff.1 hi).1]
    exact hi
/-- .. as a reading more. -/
theorem St.partR {S : List Nat} {w0 w : World} {L : List Ent} {R : List Rd} (X : St S w0 w L R) {α : Type} {f : α → List Value} {c : Nat} (hF : ∀ x, (f x).length = c) {b off n cap : Nat} {l : List α} (hR : Rd.of f (.slice (some ⟨b, off, none⟩) n cap) l ∈ R) (j m : Nat) (hm : j + m ≤ l.length) :
    St S w0 w L (Rd.of f (.slice (some ⟨b, off + j * c, none⟩) m m) ((l.drop j).take m) :: R) := by
  obtain ⟨h1, h2⟩ := X.rd _ hR
  refine X.addR (RL.part hF h1 j m hm) ?_
  rcases h2 with h2 | h2
  · left
    have h3 : l.flatMap f = [] := h2
    have h4 := flat_len hF l
    rw [h3, List.length_nil] at h4
    have h5 := flat_len hF ((l.drop j).take m)
    rw [List.length_take, List.length_drop] at h5
    have : min m (l.length - j) * c = 0 := by
      rcases Nat.mul_eq_zero.1 h4.symm with h6 | h6
      · have : min m (l.length - j) = 0 := by omega
        rw [this, Nat.zero_mul]
      · rw [h6, Nat.mul_zero]
    rw [this] at h5
    exact List.length_eq_zero_iff.1 h5
  · right
    intro b' hb e he
    cases hb
    exact h2 b rfl e he
theorem St.shortR {S : List Nat} {w0 w : World} {L : List Ent} {R : List Rd} (X : St S w0 w L R) {α : Type} {f : α → List Value} {a : Option Addr} {cap : Nat} {l : List α} (hR : Rd.of f (.slice a l.length cap) l ∈ R) : St S w0 w L (Rd.of f (.slice a l.length l.length) l :: R) := by
  obtain ⟨⟨a', c', hv, h1, h3, h4⟩, h2⟩ := X.rd _ hR
  cases hv
  exact X.addR ⟨_, _, rfl, Nat.le_refl _, Nat.le_trans h1 h3, h4⟩ (h2.imp id fun h b hb => h b (by cases a with | none => cases hb | some x => exact hb))
/-! ### A function that holds such ranges ends -/
section
variable {P : Program} {fn : Func} {F : Ending → World → Prop} {a : Act} {w w0 : World} {S : List Nat} {L : List Ent} {R : List Rd}
theorem leave0 (h : bodyPost P fn F .ret a w) : bodyPostM FW 0 P fn F .ret a w := by
  obtain ⟨hd, v, h1, h2⟩ := h
  show LeavesInM FW 0 P fn a.tmps F a.defers .returning w
  rw [hd]
  exact ⟨v, h1, h2⟩
theorem leaveD {D : Nat} {ds : List Deferred} {T : Array Value} (hD : w.heap[D]? = some (.deferred (some []))) (h : LeavesInM FW 0 P fn T F ds .returning (w.putObj D (.deferred none))) : LeavesInM FW 0 P fn T F ({ target := .collected D, args := #[] } :: ds) .returning w :=
  ⟨by simp, .inl ⟨_, _, rfl, run_takeDeferred hD, h⟩⟩
/-- Two ranges were left behind; the result in a block and two in slots. -/
theorem m_leave2 {D1 D2 : Nat} {p q r : Tmp} {T : TypeId} (hr : fn.results = #[.cell p T, .tmp q, .tmp r]) {g : Nat} (hp : EvR a (.tmp p) (.pointer (some ⟨g, 0, none⟩))) {v u : Value} (hq : EvR a (.tmp q) v) (hu : EvR a (.tmp r) u) {n : Nat} [hT : AggT P T n] (X : St S w0 w L R)
    {cs : List Value} {t : TypeId} (he : ⟨g, cs, t⟩ ∈ L) (hn : cs.length = n) (hd : a.defers = [{ target := .collected D2, args := #[] }, { target := .collected D1, args := #[] }]) (h1 : w.heap[D1]? = some (.deferred (some []))) (h2 : w.heap[D2]? = some (.deferred (some []))) (h12 : D1 ≠ D2)
    (s1 : w0.heap.size ≤ D1) (s2 : w0.heap.size ≤ D2) (n1 : D1 ∉ S) (n2 : D2 ∉ S) (h : ∀ w', St S w0 w' L R → F (.returned (.tuple #[.agg cs.toArray, v, u])) w') : bodyPostM FW 0 P fn F .ret a w := by
  have hp' : a.tmps[p]?.getD undef = .pointer (some ⟨g, 0, none⟩) := by have := hp.eval; simpa [Act.eval] using this
  have hq' : a.tmps[q]?.getD undef = v := by have := hq.eval; simpa [Act.eval] using this
  have hu' : a.tmps[r]?.getD undef = u := by have := hu.eval; simpa [Act.eval] using this
  have h1' : (w.putObj D2 (.deferred none)).heap[D1]? = some (.deferred (some [])) := (World.putObj_heap_other h12).trans h1
  have X2 := (X.putO (.deferred none) s2 h2 rfl n2).putO (.deferred none) s1 h1' rfl n1
  show LeavesInM FW 0 P fn a.tmps F a.defers .returning w
  rw [hd]
  refine leaveD h2 (leaveD h1' ⟨.tuple #[.agg cs.toArray, v, u], ?_, h _ X2⟩)
  simp [results, hr, hp', hq', hu', asAddr, X2.whole (T := T) he hn]
/-- It returns: no other end. -/
def leavePost (P : Program) (fn : Func) (F : Ending → World → Prop) : Exit → Act → World → Prop
  | .ret, a, w => bodyPostM FW 0 P fn F .ret a w
  | .normal, a, w => bodyPostM FW 0 P fn F .normal a w
  | _, _, _ => False
theorem calls_marks {f : FuncId} {c : Code} {args : Array Value} {R : Ending → World → Prop} (hf : P.funcs[f]? = some fn) (hb : fn.body = some c)
    (h : c.wp P (leavePost P fn R) { tmps := args ++ Array.replicate (fn.ntmps - args.size) undef, defers := [] } w) : Calls P f args w R :=
  (callsIn_wide (n := 0)).1 (callsIn_of_wp_marks hf hb trivial ((wpIn_wide (n := 0)).2 (wp_mono h fun e a w hq => by cases e <;> first | exact hq | exact hq.elim)) rfl)
end
end Wb

namespace Go.Proofs.YtjhmfljlclajnabDoor
open Go.RowKit Wb
instance : AggT Tryd.prog 30 10 := ⟨⟨_, Tryd.underlying30, rfl⟩, by kernel_rfl⟩
instance : ZeroT Tryd.prog 30 [.int .i64 0, .slice none 0 0, .slice none 0 0, .slice none 0 0, .bool false, .int .i64 0, .bool false, .int .i64 0, .bool false, .int .i64 0] := ⟨by kernel_rfl⟩
instance : AggT Tryd.prog 74 2 := ⟨⟨_, Tryd.underlying74, rfl⟩, by kernel_rfl⟩
instance : ZeroT Tryd.prog 74 [.int .i64 0, .string ⟨#[]⟩] := ⟨by kernel_rfl⟩
instance : AggT Tryd.prog 27 2 := ⟨⟨_, Tryd.underlying27, rfl⟩, by kernel_rfl⟩
instance : AggT Tryd.prog 23 2 := ⟨⟨_, Tryd.underlying23, rfl⟩, by kernel_rfl⟩
instance : ZeroT Tryd.prog 23 [.int .i64 0, .int .i64 0] := ⟨by kernel_rfl⟩
instance : AggT Tryd.prog 55 2 := ⟨⟨_, Tryd.underlying55, rfl⟩, by kernel_rfl⟩
instance : ZeroT Tryd.prog 55 [.slice none 0 0, .slice none 0 0] := ⟨by kernel_rfl⟩
instance : AggT Tryd.prog 76 3 := ⟨⟨_, Tryd.underlying76, rfl⟩, by kernel_rfl⟩
instance : ZeroT Tryd.prog 76 [.int .i64 0, .int .i64 0, .string ⟨#[]⟩] := ⟨by kernel_rfl⟩
instance : AggT Tryd.prog 60 3 := ⟨⟨_, Tryd.underlying60, rfl⟩, by kernel_rfl⟩
instance : ZeroT Tryd.prog 60 [.slice none 0 0, .int .i64 0, .int .i64 0] := ⟨by kernel_rfl⟩
instance : AggT Tryd.prog 81 5 := ⟨⟨_, Tryd.underlying81, rfl⟩, by kernel_rfl⟩
instance : ZeroT Tryd.prog 81 [.int .i64 0, .int .i64 0, .int .i64 0, .slice none 0 0, .slice none 0 0] := ⟨by kernel_rfl⟩
instance : AggT Tryd.prog 103 2 := ⟨⟨_, Tryd.underlying103, rfl⟩, by kernel_rfl⟩
instance : OneT Tryd.prog 3 := ⟨⟨_, Tryd.underlying3, rfl⟩, by kernel_rfl⟩
instance : ZeroT Tryd.prog 3 [.int .i64 0] := ⟨by kernel_rfl⟩
instance : OneT Tryd.prog 4 := ⟨⟨_, Tryd.underlying4, rfl⟩, by kernel_rfl⟩
instance : ZeroT Tryd.prog 4 [.bool false] := ⟨by kernel_rfl⟩
instance : OneT Tryd.prog 9 := ⟨⟨_, Tryd.underlying9, rfl⟩, by kernel_rfl⟩
instance : ZeroT Tryd.prog 9 [.string ⟨#[]⟩] := ⟨by kernel_rfl⟩
instance : OneT Tryd.prog 33 := ⟨⟨_, Tryd.underlying33, rfl⟩, by kernel_rfl⟩
instance : OneT Tryd.prog 24 := ⟨⟨_, Tryd.underlying24, rfl⟩, by kernel_rfl⟩
instance : ZeroT Tryd.prog 24 [.slice none 0 0] := ⟨by kernel_rfl⟩
instance : OneT Tryd.prog 25 := ⟨⟨_, Tryd.underlying25, rfl⟩, by kernel_rfl⟩
instance : ZeroT Tryd.prog 25 [.slice none 0 0] := ⟨by kernel_rfl⟩
instance : OneT Tryd.prog 40 := ⟨⟨_, Tryd.underlying40, rfl⟩, by kernel_rfl⟩
instance : ZeroT Tryd.prog 40 [.slice none 0 0] := ⟨by kernel_rfl⟩
instance : OneT Tryd.prog 32 := ⟨⟨_, Tryd.underlying32, rfl⟩, by kernel_rfl⟩
instance : ZeroT Tryd.prog 32 [.slice none 0 0] := ⟨by kernel_rfl⟩
instance : OneT Tryd.prog 79 := ⟨⟨_, Tryd.underlying79, rfl⟩, by kernel_rfl⟩
instance : OneT Tryd.prog 52 := ⟨⟨_, Tryd.underlying52, rfl⟩, by kernel_rfl⟩
instance : ZeroT Tryd.prog 52 [.slice none 0 0] := ⟨by kernel_rfl⟩
instance : OneT Tryd.prog 53 := ⟨⟨_, Tryd.underlying53, rfl⟩, by kernel_rfl⟩
end Go.Proofs.YtjhmfljlclajnabDoor

namespace Go.Proofs.YtjhmfljlclajnabDoor
open Go.RowKit Wb
instance : SlT Tryd.prog 32 76 3 32 := ⟨Elem.mk' (z := .agg #[.int .i64 0, .int .i64 0, .string ⟨#[]⟩]) Tryd.underlying32 (by kernel_rfl) rfl, by decide, by decide, by decide⟩
instance : SlT Tryd.prog 24 74 2 24 := ⟨Elem.mk' (z := .agg #[.int .i64 0, .string ⟨#[]⟩]) Tryd.underlying24 (by kernel_rfl) rfl, by decide, by decide, by decide⟩
instance : SlT Tryd.prog 25 3 1 8 := ⟨Elem.mk' (z := .int .i64 0) Tryd.underlying25 (by kernel_rfl) rfl, by decide, by decide, by decide⟩
instance : SlT Tryd.prog 52 9 1 16 := ⟨Elem.mk' (z := .string ⟨#[]⟩) Tryd.underlying52 (by kernel_rfl) rfl, by decide, by decide, by decide⟩
instance : SlT Tryd.prog 79 92 2 16 := ⟨Elem.mk' (z := .agg #[.int .i64 0, .bool false]) Tryd.underlying79 (by kernel_rfl) rfl, by decide, by decide, by decide⟩
instance : SlT Tryd.prog 40 30 10 128 := ⟨Elem.mk' (z := .agg #[.int .i64 0, .slice none 0 0, .slice none 0 0, .slice none 0 0, .bool false, .int .i64 0, .bool false, .int .i64 0, .bool false, .int .i64 0]) Tryd.underlying40 (by kernel_rfl) rfl, by decide, by decide, by decide⟩
instance : OneT Tryd.prog 78 := ⟨⟨_, Tryd.underlying78, rfl⟩, by kernel_rfl⟩
instance : ZeroT Tryd.prog 78 [.nilFunc] := ⟨by kernel_rfl⟩
instance : OneT Tryd.prog 83 := ⟨⟨_, Tryd.underlying83, rfl⟩, by kernel_rfl⟩
instance : ZeroT Tryd.prog 83 [.nilFunc] := ⟨by kernel_rfl⟩
end Go.Proofs.YtjhmfljlclajnabDoor

namespace Go.Proofs.YtjhmfljlclajnabDoor
open Go.RowKit Wb
instance : FieldT Tryd.prog 30 0 0 := ⟨fun _ _ _ => by kernel_rfl⟩
instance : FieldT Tryd.prog 30 1 1 := ⟨fun _ _ _ => by kernel_rfl⟩
instance : FieldT Tryd.prog 30 2 2 := ⟨fun _ _ _ => by kernel_rfl⟩
instance : FieldT Tryd.prog 30 3 3 := ⟨fun _ _ _ => by kernel_rfl⟩
instance : FieldT Tryd.prog 30 4 4 := ⟨fun _ _ _ => by kernel_rfl⟩
instance : FieldT Tryd.prog 27 0 0 := ⟨fun _ _ _ => by kernel_rfl⟩
instance : FieldT Tryd.prog 27 1 1 := ⟨fun _ _ _ => by kernel_rfl⟩
instance : FieldT Tryd.prog 74 0 0 := ⟨fun _ _ _ => by kernel_rfl⟩
instance : FieldT Tryd.prog 74 1 1 := ⟨fun _ _ _ => by kernel_rfl⟩
instance : FieldT Tryd.prog 76 0 0 := ⟨fun _ _ _ => by kernel_rfl⟩
instance : FieldT Tryd.prog 76 1 1 := ⟨fun _ _ _ => by kernel_rfl⟩
instance : FieldT Tryd.prog 76 2 2 := ⟨fun _ _ _ => by kernel_rfl⟩
instance : FieldT Tryd.prog 23 0 0 := ⟨fun _ _ _ => by kernel_rfl⟩
instance : FieldT Tryd.prog 23 1 1 := ⟨fun _ _ _ => by kernel_rfl⟩
instance : FieldT Tryd.prog 60 0 0 := ⟨fun _ _ _ => by kernel_rfl⟩
instance : FieldT Tryd.prog 60 1 1 := ⟨fun _ _ _ => by kernel_rfl⟩
instance : FieldT Tryd.prog 60 2 2 := ⟨fun _ _ _ => by kernel_rfl⟩
instance : FieldT Tryd.prog 55 0 0 := ⟨fun _ _ _ => by kernel_rfl⟩
instance : FieldT Tryd.prog 55 1 1 := ⟨fun _ _ _ => by kernel_rfl⟩
instance : FieldT Tryd.prog 103 0 0 := ⟨fun _ _ _ => by kernel_rfl⟩
instance : FieldT Tryd.prog 103 1 1 := ⟨fun _ _ _ => by kernel_rfl⟩
end Go.Proofs.YtjhmfljlclajnabDoor

namespace Wb
open Go Go.RowKit
/-- How many parts of n each. -/
def chunkN (n len : Nat) : Nat := (len + n - 1) / n
theorem chunkN_lt {n len k : Nat} (hn : 0 < n) : k < chunkN n len ↔ k * n < len := by
  unfold chunkN
  rw [Nat.lt_iff_add_one_le, Nat.le_div_iff_mul_le hn, Nat.succ_mul]
  omega
/-- Part k of a slice at b, off, whose elements have c cells. -/
def chunkV (b off c n len k : Nat) : Value := .slice (some ⟨b, off + k * n * c, none⟩) (min n (len - k * n)) (min n (len - k * n))
def chunkL (b off c n len : Nat) : List Value := (List.range (chunkN n len)).map (chunkV b off c n len)
end Wb
namespace Go.Proofs.YtjhmfljlclajnabDoor
open Go.RowKit Wb
set_option linter.unusedVariables false
set_option linter.unusedSimpArgs false
set_option maxRecDepth 100000
set_option maxHeartbeats 8000000
attribute [local go_sem] Oper.semAt_some
theorem chunkC_iter (b off cap len n gs gn : Nat) (hn : 0 < n) (h1 : n ≤ 1000) (h2 : len ≤ 1000000) (hc : len ≤ cap) (w : World) (hs : w.cell? ⟨gs, 0, none⟩ = some (.slice (some ⟨b, off, none⟩) len cap)) (hk : w.cell? ⟨gn, 0, none⟩ = some (.int .i64 n)) :
    Iter Tryd.prog 70 #[.pointer (some ⟨gs, 0, none⟩), .pointer (some ⟨gn, 0, none⟩)] (chunkL b off 2 n len) [gs, gn] w := by
  intro l J W hB hJ hY h0
  have hxl : (chunkL b off 2 n len).length = chunkN n len := by simp [chunkL]
  have hlt := fun k => chunkN_lt (len := len) (k := k) hn
  have hsW : W.cell? ⟨gs, 0, none⟩ = some (.slice (some ⟨b, off, none⟩) len cap) := (World.cell?_of_block (hB gs (by simp))).trans hs
  have hnW : W.cell? ⟨gn, 0, none⟩ = some (.int .i64 n) := (World.cell?_of_block (hB gn (by simp))).trans hk
  have hY' : ∀ k, k < chunkN n len → ∀ A, J k A → YieldAt FW 0 Tryd.prog l #[chunkV b off 2 n len k] A fun e A' => e = .returned (.bool true) ∧ J (k + 1) A' ∧ A.heap.size ≤ A'.heap.size ∧ ∀ b ∈ [gs, gn], A'.heap[b]? = A.heap[b]? := fun k hk A hA => by
    have := hY k (by rw [hxl]; exact hk) A hA
    simpa [chunkL] using this
  rw [hxl]
  clear hY
  have hY := hY'
  clear hY' hxl
  replace hJ := hid hJ; replace hY := hid hY; replace hlt := hid hlt
  clear hB hs hk
  refine callsIn_of_wp Tryd.func70 rfl trivial ?_ rfl
  simp only [Tryd.ntmps70, List.size_toArray, List.length_cons, List.length_nil, Nat.reduceAdd, Nat.reduceSub, Array.replicate_succ, Array.replicate_zero, List.push_toArray, List.append_toArray, List.nil_append, List.cons_append]
  gi_wp2
  gi_loopw [4] (fun i wr => ∃ k : Nat, k ≤ chunkN n len ∧ i = .int .i64 ((k * n : Nat) : Int) ∧ J k wr ∧ wr.cell? ⟨gs, 0, none⟩ = some (.slice (some ⟨b, off, none⟩) len cap) ∧ wr.cell? ⟨gn, 0, none⟩ = some (.int .i64 n)) (fun i _ => len + n - (intOf i).toNat)
  case atStart => exact ⟨0, Nat.zero_le _, by simp, h0, hsW, hnW⟩
  case round =>
    clear hsW hnW
    obtain ⟨k, hk, rfl, hJk, hs, hn2⟩ := hrel
    by_cases hkl : k * n < len
    · have hkN := (hlt.out k).2 hkl
      have q1 : (k : Int) * (n : Int) < (len : Int) := by exact_mod_cast hkl
      gi_wp2
      refine (wpIn_wide (n := 0)).2 ?_
      go_region
      obtain ⟨fn, tmps, assign, body, hy, hR⟩ := hY.out k hkN wr.drew (hJ.out _ _ _ hJk (b0 wr).drew)
      simp only [chunkV, Nat.mul_one] at hy
      obtain ⟨m, hm⟩ : ∃ m, m = min n (len - k * n) := ⟨_, rfl⟩
      have hif : (if len - k * n < n then ((len - k * n : Nat) : Int) else (n : Int)) = (m : Int) := by
        rw [hm]; split <;> omega
      rw [hif]
      rw [← hm] at hy
      have m1 : k * n + m ≤ len := by omega
      have m2 : k * n + m ≤ cap := by omega
      have m3 : ¬ m = 0 := by omega
      have hs2 : wr.drew.cell? ⟨gs, 0, none⟩ = some (.slice (some ⟨b, off, none⟩) len cap) := hs
      have hn3 : wr.drew.cell? ⟨gn, 0, none⟩ = some (.int .i64 n) := hn2
      clear hif hm
      generalize wr.drew = wd at *
      gi_wp2
      refine ⟨rfl, hR.mono ?_⟩
      rintro e W3 ⟨rfl, hJ3, hz3, hB3⟩
      have hs3 := (World.cell?_of_block (w := wd) (a := ⟨gs, 0, none⟩) (hB3 gs (by simp))).trans hs2
      have hn4 := (World.cell?_of_block (w := wd) (a := ⟨gn, 0, none⟩) (hB3 gn (by simp))).trans hn3
      gi_wp2
      go_roundw
      case rel => exact ⟨k + 1, by omega, by rw [Nat.succ_mul]; simp, hJ3, hs3, hn4⟩
      case measure => simp [intOf]; omega
    · obtain rfl : k = chunkN n len := Nat.le_antisymm hk (Nat.le_of_not_lt fun h => hkl ((hlt.out k).1 h))
      have q1 : ¬ ((chunkN n len : Nat) : Int) * (n : Int) < (len : Int) := by exact_mod_cast hkl
      gi_wp2
      go_end0
      exact ⟨⟨_, rfl⟩, hJk⟩
theorem chunkC_nil (a : Option Addr) (cap gs gn : Nat) (n : Int) (w : World) (hs : w.cell? ⟨gs, 0, none⟩ = some (.slice a 0 cap)) (hk : w.cell? ⟨gn, 0, none⟩ = some (.int .i64 n)) :
    Iter Tryd.prog 70 #[.pointer (some ⟨gs, 0, none⟩), .pointer (some ⟨gn, 0, none⟩)] [] [gs, gn] w := by
  intro l J W hB hJ hY h0
  have hsW : W.cell? ⟨gs, 0, none⟩ = some (.slice a 0 cap) := (World.cell?_of_block (hB gs (by simp))).trans hs
  clear hB hs hk hY hJ
  refine callsIn_of_wp Tryd.func70 rfl trivial ?_ rfl
  simp only [Tryd.ntmps70, List.size_toArray, List.length_cons, List.length_nil, Nat.reduceAdd, Nat.reduceSub, Array.replicate_succ, Array.replicate_zero, List.push_toArray, List.append_toArray, List.nil_append, List.cons_append]
  gi_wp2
  gi_loopw [4] (fun i wr => i = .int .i64 0 ∧ J 0 wr ∧ wr.cell? ⟨gs, 0, none⟩ = some (.slice a 0 cap)) (fun _ _ => 0)
  case atStart => exact ⟨rfl, h0, hsW⟩
  case round =>
    clear hsW
    obtain ⟨rfl, hJk, hs⟩ := hrel
    gi_wp2
    go_end0
    exact ⟨⟨_, rfl⟩, hJk⟩
theorem chunkC (a : Option Addr) (len cap n : Nat) (nI : Int) (hI : nI = n) (hn : 0 < n) (h2 : n ≤ 1000) {S : List Nat} {w0 w : World} {L : List Ent} {R : List Rd} (X : St S w0 w L R) :
    Calls Tryd.prog 40 #[.slice a len cap, .int .i64 nI] w fun e w' => ∃ gs gn, e = .returned (.func (.func 70) #[] #[.pointer (some ⟨gs, 0, none⟩), .pointer (some ⟨gn, 0, none⟩)]) ∧ St S w0 w' (⟨gn, [.int .i64 n], 3⟩ :: ⟨gs, [.slice a len cap], 24⟩ :: L) R := by
  subst hI
  have q : ¬ ((n : Int) < 1) := by omega
  go_enter Tryd.func40, Tryd.ntmps40
  go_wp2_with (first
    | (refine at_mem rfl ?_; (first | (refine at_load rfl ?_; (first | (refine c_load1 rfl _ _ rfl rfl X (by repeat (first | exact ReadA.here rfl | apply ReadA.there)) ?_) | (refine c_loadN rfl _ _ rfl rfl X (by repeat (first | exact ReadB.here (Nat.le_of_ble_eq_true rfl) | apply ReadB.there)) ?_))) | (refine at_store rfl ?_; (first | (refine c_store1 rfl _ _ _ rfl rfl (by first | exact EvR.const _ | exact EvR.tmp rfl rfl) X rfl rfl (by repeat (first | exact PutA.here (Nat.le_of_ble_eq_true rfl) | apply PutA.there)) ?_; intro w X2; (try simp only [upd] at X2); replace X := X2; clear X2) | (refine c_storeN rfl _ _ _ rfl rfl rfl X rfl rfl (by repeat (first | exact PutA.here (Nat.le_of_ble_eq_true rfl) | apply PutA.there)) ?_; intro w X2; (try simp only [upd] at X2); replace X := X2; clear X2))) | (refine m_alloc rfl _ rfl X ?_; intro g w X2; (replace X := X2; clear X2)) | (refine m_box rfl _ _ rfl (by first | exact EvR.const _ | exact EvR.tmp rfl rfl) rfl X ?_; intro g w X2; (replace X := X2; clear X2))); (simp only [Act.put, List.setIfInBounds_toArray, List.set_cons_succ, List.set_cons_zero, List.drop_succ_cons, List.drop_zero, List.take_succ_cons, List.take_zero, Nat.reduceAdd])))
  go_ret
  exact ⟨_, _, rfl, X⟩
theorem chunkI_iter (b off cap len n gs gn : Nat) (hn : 0 < n) (h1 : n ≤ 1000) (h2 : len ≤ 1000000) (hc : len ≤ cap) (w : World) (hs : w.cell? ⟨gs, 0, none⟩ = some (.slice (some ⟨b, off, none⟩) len cap)) (hk : w.cell? ⟨gn, 0, none⟩ = some (.int .i64 n)) :
    Iter Tryd.prog 69 #[.pointer (some ⟨gs, 0, none⟩), .pointer (some ⟨gn, 0, none⟩)] (chunkL b off 1 n len) [gs, gn] w := by
  intro l J W hB hJ hY h0
  have hxl : (chunkL b off 1 n len).length = chunkN n len := by simp [chunkL]
  have hlt := fun k => chunkN_lt (len := len) (k := k) hn
  have hsW : W.cell? ⟨gs, 0, none⟩ = some (.slice (some ⟨b, off, none⟩) len cap) := (World.cell?_of_block (hB gs (by simp))).trans hs
  have hnW : W.cell? ⟨gn, 0, none⟩ = some (.int .i64 n) := (World.cell?_of_block (hB gn (by simp))).trans hk
  have hY' : ∀ k, k < chunkN n len → ∀ A, J k A → YieldAt FW 0 Tryd.prog l #[chunkV b off 1 n len k] A fun e A' => e = .returned (.bool true) ∧ J (k + 1) A' ∧ A.heap.size ≤ A'.heap.size ∧ ∀ b ∈ [gs, gn], A'.heap[b]? = A.heap[b]? := fun k hk A hA => by
    have := hY k (by rw [hxl]; exact hk) A hA
    simpa [chunkL] using this
  rw [hxl]
  clear hY
  have hY := hY'
  clear hY' hxl
  replace hJ := hid hJ; replace hY := hid hY; replace hlt := hid hlt
  clear hB hs hk
  refine callsIn_of_wp Tryd.func69 rfl trivial ?_ rfl
  simp only [Tryd.ntmps69, List.size_toArray, List.length_cons, List.length_nil, Nat.reduceAdd, Nat.reduceSub, Array.replicate_succ, Array.replicate_zero, List.push_toArray, List.append_toArray, List.nil_append, List.cons_append]
  gi_wp2
  gi_loopw [4] (fun i wr => ∃ k : Nat, k ≤ chunkN n len ∧ i = .int .i64 ((k * n : Nat) : Int) ∧ J k wr ∧ wr.cell? ⟨gs, 0, none⟩ = some (.slice (some ⟨b, off, none⟩) len cap) ∧ wr.cell? ⟨gn, 0, none⟩ = some (.int .i64 n)) (fun i _ => len + n - (intOf i).toNat)
  case atStart => exact ⟨0, Nat.zero_le _, by simp, h0, hsW, hnW⟩
  case round =>
    clear hsW hnW
    obtain ⟨k, hk, rfl, hJk, hs, hn2⟩ := hrel
    by_cases hkl : k * n < len
    · have hkN := (hlt.out k).2 hkl
      have q1 : (k : Int) * (n : Int) < (len : Int) := by exact_mod_cast hkl
      gi_wp2
      refine (wpIn_wide (n := 0)).2 ?_
      go_region
      obtain ⟨fn, tmps, assign, body, hy, hR⟩ := hY.out k hkN wr.drew (hJ.out _ _ _ hJk (b0 wr).drew)
      simp only [chunkV, Nat.mul_one] at hy
      obtain ⟨m, hm⟩ : ∃ m, m = min n (len - k * n) := ⟨_, rfl⟩
      have hif : (if len - k * n < n then ((len - k * n : Nat) : Int) else (n : Int)) = (m : Int) := by
        rw [hm]; split <;> omega
      rw [hif]
      rw [← hm] at hy
      have m1 : k * n + m ≤ len := by omega
      have m2 : k * n + m ≤ cap := by omega
      have m3 : ¬ m = 0 := by omega
      have hs2 : wr.drew.cell? ⟨gs, 0, none⟩ = some (.slice (some ⟨b, off, none⟩) len cap) := hs
      have hn3 : wr.drew.cell? ⟨gn, 0, none⟩ = some (.int .i64 n) := hn2
      clear hif hm
      generalize wr.drew = wd at *
      gi_wp2
      refine ⟨rfl, hR.mono ?_⟩
      rintro e W3 ⟨rfl, hJ3, hz3, hB3⟩
      have hs3 := (World.cell?_of_block (w := wd) (a := ⟨gs, 0, none⟩) (hB3 gs (by simp))).trans hs2
      have hn4 := (World.cell?_of_block (w := wd) (a := ⟨gn, 0, none⟩) (hB3 gn (by simp))).trans hn3
      gi_wp2
      go_roundw
      case rel => exact ⟨k + 1, by omega, by rw [Nat.succ_mul]; simp, hJ3, hs3, hn4⟩
      case measure => simp [intOf]; omega
    · obtain rfl : k = chunkN n len := Nat.le_antisymm hk (Nat.le_of_not_lt fun h => hkl ((hlt.out k).1 h))
      have q1 : ¬ ((chunkN n len : Nat) : Int) * (n : Int) < (len : Int) := by exact_mod_cast hkl
      gi_wp2
      go_end0
      exact ⟨⟨_, rfl⟩, hJk⟩
theorem chunkI_nil (a : Option Addr) (cap gs gn : Nat) (n : Int) (w : World) (hs : w.cell? ⟨gs, 0, none⟩ = some (.slice a 0 cap)) (hk : w.cell? ⟨gn, 0, none⟩ = some (.int .i64 n)) :
    Iter Tryd.prog 69 #[.pointer (some ⟨gs, 0, none⟩), .pointer (some ⟨gn, 0, none⟩)] [] [gs, gn] w := by
  intro l J W hB hJ hY h0
  have hsW : W.cell? ⟨gs, 0, none⟩ = some (.slice a 0 cap) := (World.cell?_of_block (hB gs (by simp))).trans hs
  clear hB hs hk hY hJ
  refine callsIn_of_wp Tryd.func69 rfl trivial ?_ rfl
  simp only [Tryd.ntmps69, List.size_toArray, List.length_cons, List.length_nil, Nat.reduceAdd, Nat.reduceSub, Array.replicate_succ, Array.replicate_zero, List.push_toArray, List.append_toArray, List.nil_append, List.cons_append]
  gi_wp2
  gi_loopw [4] (fun i wr => i = .int .i64 0 ∧ J 0 wr ∧ wr.cell? ⟨gs, 0, none⟩ = some (.slice a 0 cap)) (fun _ _ => 0)
  case atStart => exact ⟨rfl, h0, hsW⟩
  case round =>
    clear hsW
    obtain ⟨rfl, hJk, hs⟩ := hrel
    gi_wp2
    go_end0
    exact ⟨⟨_, rfl⟩, hJk⟩
theorem chunkI (a : Option Addr) (len cap n : Nat) (nI : Int) (hI : nI = n) (hn : 0 < n) (h2 : n ≤ 1000) {S : List Nat} {w0 w : World} {L : List Ent} {R : List Rd} (X : St S w0 w L R) :
    Calls Tryd.prog 39 #[.slice a len cap, .int .i64 nI] w fun e w' => ∃ gs gn, e = .returned (.func (.func 69) #[] #[.pointer (some ⟨gs, 0, none⟩), .pointer (some ⟨gn, 0, none⟩)]) ∧ St S w0 w' (⟨gn, [.int .i64 n], 3⟩ :: ⟨gs, [.slice a len cap], 25⟩ :: L) R := by
  subst hI
  have q : ¬ ((n : Int) < 1) := by omega
  go_enter Tryd.func39, Tryd.ntmps39
  go_wp2_with (first
    | (refine at_mem rfl ?_; (first | (refine at_load rfl ?_; (first | (refine c_load1 rfl _ _ rfl rfl X (by repeat (first | exact ReadA.here rfl | apply ReadA.there)) ?_) | (refine c_loadN rfl _ _ rfl rfl X (by repeat (first | exact ReadB.here (Nat.le_of_ble_eq_true rfl) | apply ReadB.there)) ?_))) | (refine at_store rfl ?_; (first | (refine c_store1 rfl _ _ _ rfl rfl (by first | exact EvR.const _ | exact EvR.tmp rfl rfl) X rfl rfl (by repeat (first | exact PutA.here (Nat.le_of_ble_eq_true rfl) | apply PutA.there)) ?_; intro w X2; (try simp only [upd] at X2); replace X := X2; clear X2) | (refine c_storeN rfl _ _ _ rfl rfl rfl X rfl rfl (by repeat (first | exact PutA.here (Nat.le_of_ble_eq_true rfl) | apply PutA.there)) ?_; intro w X2; (try simp only [upd] at X2); replace X := X2; clear X2))) | (refine m_alloc rfl _ rfl X ?_; intro g w X2; (replace X := X2; clear X2)) | (refine m_box rfl _ _ rfl (by first | exact EvR.const _ | exact EvR.tmp rfl rfl) rfl X ?_; intro g w X2; (replace X := X2; clear X2))); (simp only [Act.put, List.setIfInBounds_toArray, List.set_cons_succ, List.set_cons_zero, List.drop_succ_cons, List.drop_zero, List.take_succ_cons, List.take_zero, Nat.reduceAdd])))
  go_ret
  exact ⟨_, _, rfl, X⟩
end Go.Proofs.YtjhmfljlclajnabDoor

namespace Wb
open Go Go.RowKit
/-- The first j blocks of the log, written at their places. -/
def logS (r : Ring) (t : Txn) (j : Nat) : List Stp := List.zipWith atW (places r.head j) ((logT t).take j)
theorem logS_zero (r : Ring) (t : Txn) : logS r t 0 = [] := rfl
theorem logS_succ {r : Ring} {t : Txn} {j : Nat} {s : ByteArray} (h : (logT t)[j]? = some s) : logS r t (j + 1) = logS r t j ++ [atW ((r.head + j) % 24) s] := by
  obtain ⟨hj, hs⟩ := List.getElem?_eq_some_iff.1 h
  unfold logS
  rw [places_succ, List.take_succ_eq_append_getElem hj, hs, List.zipWith_append (by rw [places_len, List.length_take]; omega)]
  rfl
theorem logS_len {r : Ring} {t : Txn} {j : Nat} (h : j ≤ (logT t).length) : (logS r t j).length = j := by
  unfold logS
  rw [List.length_zipWith, places_len, List.length_take]; omega
theorem logT_len (t : Txn) : (logT t).length = (bodyT t).length + 1 := by unfold logT; rw [List.length_append]; rfl
theorem logS_body (r : Ring) (t : Txn) : logS r t (bodyT t).length = List.zipWith atW (places r.head (bodyT t).length) (bodyT t) := by
  unfold logS logT
  rw [List.take_append_of_le_length (Nat.le_refl _), List.take_length]
/-- Where part k of the copies begins in the log. -/
def partJ (t : Txn) (k : Nat) : Nat := (revL t.seq t.rev).length + (if k = 0 then 0 else if k = 1 then (partL t.seq (t.mt.take 10)).length else (partL t.seq (t.mt.take 10)).length + (partL t.seq (t.mt.drop 10)).length)
def partM (t : Txn) (k : Nat) : List Cpy := (t.mt.drop (k * 10)).take 10
theorem revL_len (q : Int) (r : List Int) : (revL q r).length = if r = [] then 0 else 1 := by unfold revL; split <;> rfl
theorem partM0 (t : Txn) : partM t 0 = t.mt.take 10 := rfl
theorem partM1 {t : Txn} (h : t.mt.length ≤ 12) : partM t 1 = t.mt.drop 10 := by
  unfold partM
  rw [List.take_of_length_le (by rw [List.length_drop]; omega)]
theorem logT_rev {t : Txn} (h : t.rev ≠ []) : (logT t)[0]? = some (markS (listM t.seq t.rev)) := by
  unfold logT bodyT revL
  rw [if_neg h]; rfl
theorem logT_part {t : Txn} (hm : t.mt.length ≤ 12) {k i : Nat} (hk : k < 2) {s : ByteArray} (h : (partL t.seq (partM t k))[i]? = some s) : (logT t)[partJ t k + i]? = some s := by
  unfold logT bodyT partJ
  rw [List.getElem?_append_left]
  · rw [Nat.add_assoc, List.getElem?_append_right (Nat.le_add_right _ _), Nat.add_sub_cancel_left]
    obtain rfl | rfl : k = 0 ∨ k = 1 := by omega
    · rw [if_pos rfl, Nat.zero_add, ← partM0]
      rw [List.getElem?_append_left (List.getElem?_eq_some_iff.1 h).1]; exact h
    · rw [if_neg (by decide), if_pos rfl, List.getElem?_append_right (Nat.le_add_right _ _), Nat.add_sub_cancel_left, ← partM1 hm]; exact h
  · have := (List.getElem?_eq_some_iff.1 h).1
    rw [List.length_append, List.length_append]
    obtain rfl | rfl : k = 0 ∨ k = 1 := by omega
    · rw [partM0] at this; rw [if_pos rfl]; omega
    · rw [partM1 hm] at this; rw [if_neg (by decide), if_pos rfl]; omega
theorem partL_head {q : Int} {p : List Cpy} (h : p ≠ []) : (partL q p)[0]? = some (markS (descM q p)) := by unfold partL; rw [if_neg h]; rfl
theorem partL_copy {q : Int} {p : List Cpy} {i : Nat} (h : i < p.length) : (partL q p)[1 + i]? = some (escS p[i].text) := by
  unfold partL
  rw [if_neg (by intro e; subst e; exact absurd h (Nat.not_lt_zero _)), Nat.add_comm, List.getElem?_cons_succ, List.getElem?_map]
  simp [h]
/-- Behind part k. -/
theorem partJ_next {t : Txn} (hm : t.mt.length ≤ 12) {k : Nat} (hk : k * 10 < t.mt.length) : partJ t (k + 1) = partJ t k + (1 + (partM t k).length) := by
  have hk2 : k < 2 := by omega
  unfold partJ
  obtain rfl | rfl : k = 0 ∨ k = 1 := by omega
  · rw [if_neg (by decide), if_pos rfl, if_pos rfl, partL_len, partM0, if_neg]
    · omega
    · intro h
      have := congrArg List.length h
      rw [List.length_take] at this
      rw [List.length_nil] at this; omega
  · rw [if_neg (by decide), if_neg (by decide), if_neg (by decide), if_pos rfl, partL_len t.seq (t.mt.drop 10), partM1 hm, if_neg]
    · omega
    · intro h
      have := congrArg List.length h
      rw [List.length_drop] at this
      rw [List.length_nil] at this; omega
theorem partM_len {t : Txn} (k : Nat) : (partM t k).length = min 10 (t.mt.length - k * 10) := by unfold partM; rw [List.length_take, List.length_drop]
theorem bodyT_end {t : Txn} (hm : t.mt.length ≤ 12) : (bodyT t).length = partJ t (chunkN 10 t.mt.length) := by
  have h2 : (t.mt.drop 10 = []) ↔ t.mt.length ≤ 10 := by rw [← List.length_eq_zero_iff, List.length_drop]; omega
  have hc : chunkN 10 t.mt.length = if t.mt.length = 0 then 0 else if t.mt.length ≤ 10 then 1 else 2 := by
    unfold chunkN
    split
    · omega
    · split <;> omega
  rw [hc]
  unfold bodyT partJ
  rw [List.length_append, List.length_append]
  by_cases h0 : t.mt.length = 0
  · rw [if_pos h0, if_pos rfl]
    have e : t.mt = [] := List.length_eq_zero_iff.1 h0
    rw [e]; rfl
  · rw [if_neg h0]
    by_cases h1 : t.mt.length ≤ 10
    · rw [if_pos h1, if_neg (by decide), if_pos rfl, h2.2 h1]
      have : (partL t.seq []).length = 0 := rfl
      rw [this]; omega
    · rw [if_neg h1, if_neg (by decide), if_neg (by decide)]
theorem partJ_bound {t : Txn} (hm : t.mt.length ≤ 12) {k : Nat} (hk : k * 10 < t.mt.length) : partJ t k + (1 + (partM t k).length) ≤ (bodyT t).length := by
  rw [bodyT_end hm]
  have h1 := partJ_next hm hk
  have hc := fun j => chunkN_lt (n := 10) (len := t.mt.length) (k := j) (by decide)
  have hk1 := (hc k).2 hk
  have h2 := hc (k + 1)
  have h3 := hc (k + 2)
  by_cases hk2 : (k + 1) * 10 < t.mt.length
  · have h4 := partJ_next hm hk2
    have : chunkN 10 t.mt.length = k + 1 + 1 := by omega
    rw [this, h4, h1]; omega
  · have : chunkN 10 t.mt.length = k + 1 := by omega
    rw [this, h1]; omega
theorem partJ_low {t : Txn} (hm : t.mt.length ≤ 12) : partJ t 0 ≤ (bodyT t).length := by
  by_cases hz : 0 < t.mt.length
  · have := partJ_bound hm (k := 0) (by omega); omega
  · have : chunkN 10 t.mt.length = 0 := by unfold chunkN; omega
    rw [bodyT_end hm, this]; exact Nat.le_refl _
theorem dataS_len {t : Txn} (h : t.dt.length ≤ 12) : (dataS t).length ≤ 13 := by
  unfold dataS
  rw [List.length_append, List.length_map]
  have : (if t.dt = [] then ([] : List Stp) else [flushS]).length ≤ 1 := by split <;> simp
  omega
theorem comL_eq {r : Ring} {t : Txn} (h : comE r t = 0) : comL r t = dataS t ++ (logS r t (bodyT t).length ++ ((if (bodyT t).length = 0 then [] else [flushS]) ++ [atW ((r.head + ((bodyT t).length : Int)) % 24) (markS (comM t.seq)), flushS])) := by
  unfold comL
  rw [if_pos h, logS_body]
  congr 3
  by_cases hz : bodyT t = []
  · rw [if_pos hz, if_pos (by rw [hz]; rfl)]
  · rw [if_neg hz, if_neg (by rw [List.length_eq_zero_iff]; exact hz)]
theorem dataS_eq (t : Txn) : t.dt.map goS ++ (if 0 < t.dt.length then [flushS] else []) = dataS t := by
  unfold dataS
  congr 1
  by_cases h : t.dt = []
  · rw [if_pos h, if_neg (by rw [h]; decide)]
  · rw [if_neg h, if_pos (List.length_pos_iff.2 h)]
/-- All that Commit's walk wants to know of its list: DS the data's steps, LS j the first j writes, pj k where part k begins, pm k that part. -/
structure ComF (r : Ring) (t : Txn) (nb : Nat) (DS : List Stp) (LS : Nat → List Stp) (pj : Nat → Nat) (pm : Nat → List Cpy) : Prop where
  l0 : LS 0 = []
  lr : t.rev ≠ [] → LS 1 = LS 0 ++ [atW ((r.head + ((0 : Nat) : Int)) % 24) (markS (listM t.seq t.rev))]
  lp : ∀ k, k * 10 < t.mt.length → ∀ i s, (partL t.seq (pm k))[i]? = some s → LS (pj k + i + 1) = LS (pj k + i) ++ [atW ((r.head + ((pj k + i : Nat) : Int)) % 24) s]
  j0 : pj 0 = (revL t.seq t.rev).length
  jn : ∀ k, k * 10 < t.mt.length → pj (k + 1) = pj k + (1 + (pm k).length)
  je : nb = pj (chunkN 10 t.mt.length)
  ml : ∀ k, (pm k).length = min 10 (t.mt.length - k * 10)
  md : ∀ k, pm k = (t.mt.drop (k * 10)).take 10
  ll : ∀ j, j ≤ nb + 1 → (LS j).length = j
  dl : DS.length ≤ 13
  cd : comL r t = DS ++ (LS nb ++ ((if nb = 0 then [] else [flushS]) ++ [atW ((r.head + (nb : Int)) % 24) (markS (comM t.seq)), flushS]))
  ds : t.dt.map goS ++ (if 0 < t.dt.length then [flushS] else []) = DS
  bk : ∀ k, k * 10 < t.mt.length → pj k + (1 + (pm k).length) ≤ nb
  b0 : pj 0 ≤ nb
theorem comF {r : Ring} {t : Txn} (hm : t.mt.length ≤ 12) (hd : t.dt.length ≤ 12) (hc : comE r t = 0) : ∃ DS LS pj pm, ComF r t (bodyT t).length DS LS pj pm :=
  ⟨dataS t, logS r t, partJ t, partM t, logS_zero r t, fun h => logS_succ (j := 0) (logT_rev h), fun k hk i s hs => logS_succ (logT_part hm (by omega) hs), rfl, fun k hk => partJ_next hm hk, bodyT_end hm, partM_len, fun _ => rfl,
    fun j hj => logS_len (by rw [logT_len]; exact hj), dataS_len hd, comL_eq hc, dataS_eq t, fun k hk => partJ_bound hm hk, partJ_low hm⟩
end Wb

namespace Go.Proofs.YtjhmfljlclajnabDoor
open Go.RowKit Wb
set_option linter.unusedVariables false
set_option linter.unusedSimpArgs false
set_option maxRecDepth 100000
set_option maxHeartbeats 8000000
theorem seal_write (p : Int) (s : ByteArray) (w : World) :
    Calls Tryd.prog 35 #[.int .i64 p, .string s] w fun e w' => e = .returned (.agg #[.int .i64 1, .int .i64 p, .string s]) ∧ Below w.heap.size w w' := by
  have X := St.start [] w
  go_enter Tryd.func35, Tryd.ntmps35
  go_wp2_with (first
    | (refine at_mem rfl ?_; (first | (refine at_load rfl ?_; (first | (refine c_load1 rfl _ _ rfl rfl X (by repeat (first | exact ReadA.here rfl | apply ReadA.there)) ?_) | (refine c_loadN rfl _ _ rfl rfl X (by repeat (first | exact ReadB.here (Nat.le_of_ble_eq_true rfl) | apply ReadB.there)) ?_))) | (refine at_store rfl ?_; (first | (refine c_store1 rfl _ _ _ rfl rfl (by first | exact EvR.const _ | exact EvR.tmp rfl rfl) X rfl rfl (by repeat (first | exact PutA.here (Nat.le_of_ble_eq_true rfl) | apply PutA.there)) ?_; intro w X2; (try simp only [upd] at X2); replace X := X2; clear X2) | (refine c_storeN rfl _ _ _ rfl rfl rfl X rfl rfl (by repeat (first | exact PutA.here (Nat.le_of_ble_eq_true rfl) | apply PutA.there)) ?_; intro w X2; (try simp only [upd] at X2); replace X := X2; clear X2))) | (refine m_alloc rfl _ rfl X ?_; intro g w X2; (replace X := X2; clear X2)) | (refine m_box rfl _ _ rfl (by first | exact EvR.const _ | exact EvR.tmp rfl rfl) rfl X ?_; intro g w X2; (replace X := X2; clear X2))); (simp only [Act.put, List.setIfInBounds_toArray, List.set_cons_succ, List.set_cons_zero, List.drop_succ_cons, List.drop_zero, List.take_succ_cons, List.take_zero, Nat.reduceAdd])))
  exact m_ret1 rfl (.tmp rfl rfl) X (.head _) rfl rfl ⟨rfl, X.below⟩
end Go.Proofs.YtjhmfljlclajnabDoor

namespace Go.Proofs.YtjhmfljlclajnabDoor
open Go.RowKit Wb
set_option linter.unusedVariables false
set_option linter.unusedSimpArgs false
set_option maxRecDepth 100000
set_option maxHeartbeats 2000000
theorem elemCpy : Elem Tryd.prog 24 74 2 24 := Elem.mk' (z := .agg #[.int .i64 0, .string ⟨#[]⟩]) Tryd.underlying24 (by kernel_rfl) rfl

theorem ref_isBlock (n : Int) (w : World) : Calls Tryd.prog 52 #[.int .i64 n] w fun e w' => e = .returned (.bool (isBlk n)) ∧ w = w' := by
  by_cases h0 : 0 ≤ n
  · by_cases h1 : n < 12
    · have hv : isBlk n = true := decide_eq_true ⟨h0, h1⟩
      rw [hv]
      clear hv
      go_enter Tryd.func52, Tryd.ntmps52
      go_wp2
      go_ret
      exact ⟨rfl, rfl⟩
    · have hv : isBlk n = false := decide_eq_false (fun h => h1 h.2)
      rw [hv]
      clear hv
      go_enter Tryd.func52, Tryd.ntmps52
      go_wp2
      go_ret
      exact ⟨rfl, rfl⟩
  · have hv : isBlk n = false := decide_eq_false (fun h => h0 h.1)
    rw [hv]
    clear hv
    go_enter Tryd.func52, Tryd.ntmps52
    go_wp2
    go_ret
    exact ⟨rfl, rfl⟩

theorem ref_among (l : List Int) (b : Int) (v : Value) (w : World) (h : RL intC w v l) (hl : l.length ≤ 17592186044160) :
    Calls Tryd.prog 54 #[v, .int .i64 b] w fun e w' => e = .returned (.bool (inI l b)) ∧ w = w' := by
  obtain ⟨a, cap, rfl, _⟩ := h.form
  have hst := fun k (hk : k < l.length) => inI_step (l := l) (b := b) hk
  have hft := fun k (hk : ¬ k < l.length) => inI_full (l := l) (b := b) hk
  have hht := fun k (hk : k < l.length) (hb : l[k] = b) => inI_hit hk hb
  replace h := hid h; replace hst := hid hst; replace hft := hid hft; replace hht := hid hht
  go_enter Tryd.func54, Tryd.ntmps54
  go_wp2
  go_loop [9] (fun i => ∃ k : Nat, k ≤ l.length ∧ i = .int .i64 k ∧ Hid (inI (l.take k) b = false)) (fun i => l.length - (intOf i).toNat)
  case atStart => exact ⟨0, Nat.zero_le _, rfl, hid (by simp [inI])⟩
  case round =>
    obtain ⟨k, hk, rfl, hno⟩ := hrel
    by_cases hlt : k < l.length
    · obtain ⟨b1, o1, rfl, c0⟩ := RL.at1 (fun x => .int .i64 x) (fun _ => rfl) h.out hlt
      by_cases hb : l[k] = b
      · have hv := hid (hht.out k hlt hb)
        have e1 : (l[k] == b) = true := beq_iff_eq.2 hb
        clear hb
        generalize l[k] = x at *
        go_wp2
        go_ret
        exact ⟨ret_b hv.out.symm, rfl⟩
      · have hs := hst.out k hlt
        have e1 : (l[k] == b) = false := beq_eq_false_iff_ne.2 hb
        rw [e1, hno.out] at hs
        replace hs := hid hs
        clear hb
        generalize l[k] = x at *
        go_wp2
        go_round
        case rel => exact ⟨k + 1, by omega, by go_num, hs⟩
        case measure => simp [intOf]; omega
    · have hv := hno.out
      rw [hft.out k hlt] at hv
      replace hv := hid hv
      go_wp2
      go_ret
      exact ⟨ret_b hv.out.symm, rfl⟩

theorem ref_TextOf (l : List Cpy) (b : Int) (v : Value) (w : World) (h : RL cpyC w v l) (hl : l.length ≤ 5864062014805) :
    Calls Tryd.prog 79 #[v, .int .i64 b] w fun e w' => e = .returned (.tuple #[.string ((getC l b).getD ⟨#[]⟩), .bool (getC l b).isSome]) ∧ Below w.heap.size w w' := by
  obtain ⟨a, cap, rfl, _⟩ := h.form
  have hst := fun k (hk : k < l.length) => hasB_step (l := l) (b := b) hk
  have hft := fun k (hk : ¬ k < l.length) => hasB_full (l := l) (b := b) hk
  have hht := fun k (hk : k < l.length) (hn : hasB (l.take k) b = false) (hb : l[k].block = b) => getC_step hk hn hb
  have hno' := fun (hn : hasB l b = false) => getC_none hn
  generalize getC l b = g at *
  replace h := hid h; replace hst := hid hst; replace hft := hid hft; replace hht := hid hht; replace hno' := hid hno'
  go_enter Tryd.func79, Tryd.ntmps79
  go_wp2
  go_loopw [7, 10] (fun _ i wr => ∃ k : Nat, k ≤ l.length ∧ i = .int .i64 k ∧ Hid (hasB (l.take k) b = false) ∧ Below w.heap.size w wr) (fun _ i _ => l.length - (intOf i).toNat)
  case atStart => exact ⟨0, Nat.zero_le _, rfl, hid (by simp [hasB]), b0 w⟩
  case round =>
    obtain ⟨k, hk, rfl, hno, nx⟩ := hrel
    by_cases hlt : k < l.length
    · obtain ⟨b1, o1, rfl, c0, c1⟩ := RL.at2 (fun x => .int .i64 x.block) (fun x => .string x.text) (fun _ => rfl) (h.out.below nx) hlt
      by_cases hb : l[k].block = b
      · have hv := hht.out k hlt hno.out hb
        have e1 : (l[k].block == b) = true := beq_iff_eq.2 hb
        clear hb hno'
        generalize l[k] = x at *
        subst hv
        go_wp2
        go_ret2
        exact ⟨by simp, bal nx _⟩
      · have hs := hst.out k hlt
        have e1 : (l[k].block == b) = false := beq_eq_false_iff_ne.2 hb
        rw [e1, hno.out] at hs
        replace hs := hid hs
        clear hb
        generalize l[k] = x at *
        go_wp2
        go_roundw
        case rel => exact ⟨k + 1, by omega, by go_num, hs, bal nx _⟩
        case measure => simp [intOf]; omega
    · have hv := hno.out
      rw [hft.out k hlt] at hv
      have hg := hno'.out hv
      subst hg
      clear hv hno'
      go_wp2
      go_ret2
      exact ⟨rfl, nx⟩

theorem ref_rest (l : List Cpy) (b : Int) (v : Value) (w : World) (h : RL cpyC w v l) (hl : l.length ≤ 1099511627776) :
    Calls Tryd.prog 53 #[v, .int .i64 b] w fun e w' => ∃ v', e = .returned v' ∧ Wb.Own cpyC w.heap.size 74 2 w' v' (dropC l b) ∧ Below w.heap.size w w' := by
  obtain ⟨a, cap, rfl, _⟩ := h.form
  have hst := fun k (hk : k < l.length) => dropC_step (l := l) (b := b) hk
  have hln := fun k => dropC_len (l.take k) b
  replace h := hid h; replace hst := hid hst; replace hln := hid hln
  go_enter Tryd.func53, Tryd.ntmps53
  go_wp2
  go_loopw [5, 7, 10] (fun o _ i wr => ∃ k : Nat, k ≤ l.length ∧ i = .int .i64 k ∧ Wb.Own cpyC w.heap.size 74 2 wr o (dropC (l.take k) b) ∧ Below w.heap.size w wr) (fun _ _ i _ => l.length - (intOf i).toNat)
  case atStart => exact ⟨0, Nat.zero_le _, rfl, by simpa [dropC] using Own.nil _ _ _ _ _, b0 w⟩
  case round =>
    obtain ⟨k, hk, rfl, hown, nx⟩ := hrel
    by_cases hlt : k < l.length
    · obtain ⟨b1, o1, rfl, c0, c1⟩ := RL.at2 (fun x => .int .i64 x.block) (fun x => .string x.text) (fun _ => rfl) (h.out.below nx) hlt
      have hs := hst.out k hlt
      have hl2 := hln.out k
      rw [List.length_take] at hl2
      by_cases hb : l[k].block = b
      · rw [if_pos hb] at hs
        have e1 : (l[k].block != b) = false := by rw [bne_eq_false_iff_eq]; exact hb
        replace hs := hid hs
        clear hb
        generalize l[k] = x at *
        go_wp2
        go_roundw
        case rel => exact ⟨k + 1, by omega, by go_num, by rw [hs.out]; exact hown.alloc _, bal nx _⟩
        case measure => simp [intOf]; omega
      · rw [if_neg hb] at hs
        have e1 : (l[k].block != b) = true := bne_iff_ne.2 hb
        replace hs := hid hs
        clear hb
        generalize l[k] = x at *
        generalize dropC (l.take k) b = ls at *
        have hsz := nx.size
        go_wp2_with (at_builtin; go_loud (refine wpList_push rfl _ _ _ rfl w.heap.size _ 2 24 cpyC_flat elemCpy (hown.alloc _) rfl x rfl rfl ?c1 ?c2 ?c3 ?c4))
        all_goals try (case c1 => omega)
        all_goals try (case c2 => unfold maxLen; omega)
        all_goals try (case c3 => simp; omega)
        case c4 =>
          intro v7 w7 hown7 hbel7 _
          rw [← hs.out] at hown7
          go_wp2
          go_roundw
          case rel => exact ⟨k + 1, by omega, by go_num, hown7, (bal nx _).trans hbel7⟩
          case measure => simp [intOf]; omega
    · rw [List.take_of_length_le (by omega)] at hown
      go_wp2
      go_ret
      exact ⟨_, rfl, hown, nx⟩

theorem ref_with (l : List Cpy) (b : Int) (s : ByteArray) (v : Value) (w : World) (h : RL cpyC w v l) (hl : l.length ≤ 5864062014805) :
    Calls Tryd.prog 55 #[v, .int .i64 b, .string s] w fun e w' => ∃ v', e = .returned v' ∧ Wb.Own cpyC w.heap.size 74 2 w' v' (withL l b s) ∧ Below w.heap.size w w' := by
  obtain ⟨a, cap, rfl, _⟩ := h.form
  have hT := fun (k : Nat) w (hh : RL cpyC w (.slice a l.length cap) l) => ref_TextOf l k _ w hh hl
  have hst := fun k => withN_step l b s k
  have hln := fun k => withN_len l b s k
  have hwk : ∀ k : Nat, withK l b s k = if (k : Int) = b then some ⟨b, s⟩ else (getC l k).map fun t => ⟨k, t⟩ := fun _ => rfl
  have hwl : withL l b s = withN l b s 12 := rfl
  have hn0 : withN l b s 0 = [] := rfl
  rw [hwl]
  replace h := hid h; replace hT := hid hT; replace hst := hid hst; replace hln := hid hln; replace hwk := hid hwk; replace hn0 := hid hn0
  clear hwl hl
  generalize hW : withN l b s = W at *
  clear hW
  go_enter Tryd.func55, Tryd.ntmps55
  go_wp2
  go_loopw [7, 11] (fun o i wr => ∃ k : Nat, k ≤ 12 ∧ i = .int .i64 k ∧ Wb.Own cpyC w.heap.size 74 2 wr o (W k) ∧ Below w.heap.size w wr) (fun _ i _ => 12 - (intOf i).toNat)
  case atStart => exact ⟨0, by decide, rfl, by rw [hn0.out]; exact Own.nil _ _ _ _ _, b0 w⟩
  case round =>
    obtain ⟨k, hk, rfl, hown, nx⟩ := hrel
    by_cases hlt : k < 12
    · have hs := hst.out k
      have hw2 := hwk.out k
      have hl2 := hln.out k
      have hTk := hT.out k
      generalize getC l k = g at *
      generalize W k = Wk at *
      by_cases hb : (k : Int) = b
      · rw [hw2, if_pos hb, Option.toList_some] at hs
        have e1 : ((k : Int) == b) = true := beq_iff_eq.2 hb
        replace hs := hid hs; replace hTk := hid hTk
        clear hb hw2
        go_wp2_with (first
          | (go_at_call 79; go_loud ((with_reducible refine (hTk.out _ (h.out.below nx)).mono ?_); rintro e w1 ⟨rfl, hb1⟩; have nx1 := bgo nx hb1; have hown := hown.below hb1; have hsz := nx1.size))
          | (at_builtin; go_loud (refine wpList_push rfl _ _ _ rfl w.heap.size _ 2 24 cpyC_flat elemCpy hown rfl ⟨b, s⟩ rfl rfl (by omega) (by unfold maxLen; omega) nx1.size ?_); intro v7 w7 hown7 hbel7 _))
        rw [← hs.out] at hown7
        go_wp2
        go_roundw
        case rel => exact ⟨k + 1, by omega, by go_num, hown7, nx1.trans hbel7⟩
        case measure => simp [intOf]; omega
      · rw [hw2, if_neg hb] at hs
        have e1 : ((k : Int) == b) = false := beq_eq_false_iff_ne.2 hb
        clear hb hw2
        cases g with
        | none =>
          simp only [Option.map_none, Option.toList_none, List.append_nil] at hs
          simp only [Option.getD_none, Option.isSome_none] at hTk
          replace hs := hid hs; replace hTk := hid hTk
          go_wp2_with (go_at_call 79; go_loud ((with_reducible refine (hTk.out _ (h.out.below nx)).mono ?_); rintro e w1 ⟨rfl, hb1⟩; have nx1 := bgo nx hb1; have hown := hown.below hb1; have hsz := nx1.size))
          go_roundw
          case rel => exact ⟨k + 1, by omega, by go_num, by rw [hs.out]; exact hown, nx1⟩
          case measure => simp [intOf]; omega
        | some t =>
          simp only [Option.map_some, Option.toList_some] at hs
          simp only [Option.getD_some, Option.isSome_some] at hTk
          replace hs := hid hs; replace hTk := hid hTk
          go_wp2_with (first
            | (go_at_call 79; go_loud ((with_reducible refine (hTk.out _ (h.out.below nx)).mono ?_); rintro e w1 ⟨rfl, hb1⟩; have nx1 := bgo nx hb1; have hown := hown.below hb1; have hsz := nx1.size))
            | (at_builtin; go_loud (refine wpList_push rfl _ _ _ rfl w.heap.size _ 2 24 cpyC_flat elemCpy hown rfl ⟨(k : Int), t⟩ rfl rfl (by omega) (by unfold maxLen; omega) nx1.size ?_); intro v7 w7 hown7 hbel7 _))
          rw [← hs.out] at hown7
          go_wp2
          go_roundw
          case rel => exact ⟨k + 1, by omega, by go_num, hown7, nx1.trans hbel7⟩
          case measure => simp [intOf]; omega
    · obtain rfl : k = 12 := by omega
      go_wp2
      go_ret
      exact ⟨_, rfl, hown, nx⟩
end Go.Proofs.YtjhmfljlclajnabDoor

namespace Go.Proofs.YtjhmfljlclajnabDoor
open Go.RowKit Wb
set_option linter.unusedVariables false
set_option linter.unusedSimpArgs false
set_option maxRecDepth 100000
set_option maxHeartbeats 8000000
theorem txn_Get (l : List Cpy) (b : Int) (v : Value) (w : World) (h : RL cpyC w v l) (hl : l.length ≤ 5864062014805) :
    Calls Tryd.prog 15 #[v, .int .i64 b] w fun e w' => e = .returned (.tuple #[.string ((getC l b).getD ⟨#[]⟩), .bool (getC l b).isSome]) ∧ Below w.heap.size w w' := by
  obtain ⟨a, cap, rfl, _⟩ := h.form
  have hst := fun k (hk : k < l.length) => hasB_step (l := l) (b := b) hk
  have hft := fun k (hk : ¬ k < l.length) => hasB_full (l := l) (b := b) hk
  have hht := fun k (hk : k < l.length) (hn : hasB (l.take k) b = false) (hb : l[k].block = b) => getC_step hk hn hb
  have hno' := fun (hn : hasB l b = false) => getC_none hn
  generalize getC l b = g at *
  replace h := hid h; replace hst := hid hst; replace hft := hid hft; replace hht := hid hht; replace hno' := hid hno'
  go_enter Tryd.func15, Tryd.ntmps15
  go_wp2
  go_loopw [7, 10] (fun _ i wr => ∃ k : Nat, k ≤ l.length ∧ i = .int .i64 k ∧ Hid (hasB (l.take k) b = false) ∧ Below w.heap.size w wr) (fun _ i _ => l.length - (intOf i).toNat)
  case atStart => exact ⟨0, Nat.zero_le _, rfl, hid (by simp [hasB]), b0 w⟩
  case round =>
    obtain ⟨k, hk, rfl, hno, nx⟩ := hrel
    by_cases hlt : k < l.length
    · obtain ⟨b1, o1, rfl, c0, c1⟩ := RL.at2 (fun x => .int .i64 x.block) (fun x => .string x.text) (fun _ => rfl) (h.out.below nx) hlt
      by_cases hb : l[k].block = b
      · have hv := hht.out k hlt hno.out hb
        have e1 : (l[k].block == b) = true := beq_iff_eq.2 hb
        clear hb hno'
        generalize l[k] = x at *
        subst hv
        go_wp2
        go_ret2
        exact ⟨by simp, bal nx _⟩
      · have hs := hst.out k hlt
        have e1 : (l[k].block == b) = false := beq_eq_false_iff_ne.2 hb
        rw [e1, hno.out] at hs
        replace hs := hid hs
        clear hb
        generalize l[k] = x at *
        go_wp2
        go_roundw
        case rel => exact ⟨k + 1, by omega, by go_num, hs, bal nx _⟩
        case measure => simp [intOf]; omega
    · have hv := hno.out
      rw [hft.out k hlt] at hv
      have hg := hno'.out hv
      subst hg
      clear hv hno'
      go_wp2
      go_ret2
      exact ⟨rfl, nx⟩

end Go.Proofs.YtjhmfljlclajnabDoor

namespace Wb
open Go Go.RowKit
theorem Own.cellsOf {α : Type} {f : α → List Value} {base : Nat} {e : TypeId} {c : Nat} {w : World} {v : Value} {l : List α} (h : Own f base e c w v l) {g : Nat} (hg : v.ownBlock = some g) : ∃ cur, w.heap[g]? = some (.cells cur e (0, 0)) := by
  obtain ⟨_, h2⟩ := h
  rcases h2 with ⟨rfl, _⟩ | ⟨g', cap, cur, rfl, _, hh, _⟩
  · cases hg
  · simp only [Value.ownBlock, Option.some.injEq] at hg
    subst hg
    exact ⟨cur, hh⟩
theorem Own.apart {α β : Type} {f : α → List Value} {f2 : β → List Value} {base base2 : Nat} {e e2 : TypeId} {c c2 : Nat} {w : World} {v v2 : Value} {l : List α} {l2 : List β} (h : Own f base e c w v l) (h2 : Own f2 base2 e2 c2 w v2 l2) (hne : e ≠ e2) : v.ownBlock = none ∨ v.ownBlock ≠ v2.ownBlock := by
  cases hv : v.ownBlock with
  | none => exact .inl rfl
  | some g =>
    refine .inr fun hh => ?_
    obtain ⟨c1, h1⟩ := h.cellsOf hv
    obtain ⟨c2, h3⟩ := h2.cellsOf hh.symm
    rw [h1] at h3
    simp only [Option.some.injEq, Obj.cells.injEq] at h3
    exact hne h3.2.1
/-- What is owned stays, while a row of another type is appended to. -/
theorem Own.grownTy {α β : Type} {f : α → List Value} {f2 : β → List Value} {base base2 : Nat} {e e2 : TypeId} {c c2 : Nat} {w w' : World} {v v2 : Value} {l : List α} {l2 : List β} (h : Own f base e c w v l) (h2 : Own f2 base2 e2 c2 w v2 l2) (hne : e ≠ e2) (hg : w.grownBy w' v2.ownBlock) : Own f base e c w' v l :=
  h.grown hg (h.apart h2 hne)
/-- An owned transaction. -/
def OTxn (base : Nat) (tc ti : TypeId) (w : World) (v : Value) (t : Txn) : Prop :=
  ∃ vm vd vr, v = txnV t vm vd vr ∧ Own cpyC base tc 2 w vm t.mt ∧ Own cpyC base tc 2 w vd t.dt ∧ Own intC base ti 1 w vr t.rev ∧ t.mt.length ≤ 5864062014805 ∧ t.dt.length ≤ 5864062014805 ∧ t.rev.length ≤ 17592186044160
section
variable {base : Nat} {tc ti tt : TypeId} {w w' : World} {v : Value} {t : Txn}
theorem OTxn.reads (h : OTxn base tc ti w v t) : RTxn w v t := by
  obtain ⟨vm, vd, vr, hv, h1, h2, h3, h4⟩ := h
  exact ⟨vm, vd, vr, hv, h1.reads, h2.reads, h3.reads, h4⟩
theorem OTxn.below (h : OTxn base tc ti w v t) (hb : Below w.heap.size w w') : OTxn base tc ti w' v t := by
  obtain ⟨vm, vd, vr, hv, h1, h2, h3, h4⟩ := h
  exact ⟨vm, vd, vr, hv, h1.below hb, h2.below hb, h3.below hb, h4⟩
theorem OTxn.mono (h : OTxn base tc ti w v t) {b2 : Nat} (hb : b2 ≤ base) : OTxn b2 tc ti w v t := by
  obtain ⟨vm, vd, vr, hv, h1, h2, h3, h4⟩ := h
  exact ⟨vm, vd, vr, hv, h1.mono hb, h2.mono hb, h3.mono hb, h4⟩
theorem OTxn.grownTy {β : Type} {f2 : β → List Value} {base2 : Nat} {e2 : TypeId} {c2 : Nat} {v2 : Value} {l2 : List β} (h : OTxn base tc ti w v t) (h2 : Own f2 base2 e2 c2 w v2 l2) (hc : tc ≠ e2) (hi : ti ≠ e2) (hg : w.grownBy w' v2.ownBlock) : OTxn base tc ti w' v t := by
  obtain ⟨vm, vd, vr, hv, h1, h2', h3, h4⟩ := h
  exact ⟨vm, vd, vr, hv, h1.grownTy h2 hc hg, h2'.grownTy h2 hc hg, h3.grownTy h2 hi hg, h4⟩
theorem OTxn.tv (h : OTxn base tc ti w v t) : ∃ x : TV, x.t = t ∧ v = x.val ∧ OTxn base tc ti w x.val x.t := by
  obtain ⟨x, hx, hv, _⟩ := h.reads.tv
  exact ⟨x, hx, hv, by rw [hx, ← hv]; exact h⟩
/-- An owned list of owned transactions. -/
def OTxns (base : Nat) (tt tc ti : TypeId) (w : World) (v : Value) (l : List Txn) : Prop :=
  ∃ xs : List TV, Own tvC base tt 10 w v xs ∧ xs.map (·.t) = l ∧ ∀ x ∈ xs, OTxn base tc ti w x.val x.t
variable {l : List Txn}
theorem OTxns.nil (base : Nat) (tt tc ti : TypeId) (w : World) : OTxns base tt tc ti w (.slice none 0 0) [] := ⟨[], Own.nil _ _ _ _ _, rfl, fun _ h => absurd h List.not_mem_nil⟩
theorem OTxns.below (h : OTxns base tt tc ti w v l) (hb : Below w.heap.size w w') : OTxns base tt tc ti w' v l := by
  obtain ⟨xs, h1, h2, h3⟩ := h
  exact ⟨xs, h1.below hb, h2, fun x hx => (h3 x hx).below hb⟩
theorem OTxns.mono (h : OTxns base tt tc ti w v l) {b2 : Nat} (hb : b2 ≤ base) : OTxns b2 tt tc ti w v l := by
  obtain ⟨xs, h1, h2, h3⟩ := h
  exact ⟨xs, h1.mono hb, h2, fun x hx => (h3 x hx).mono hb⟩
theorem OTxns.reads (h : OTxns base tt tc ti w v l) (hl : l.length ≤ 1099511627744) : RTxns w v l := by
  obtain ⟨xs, h1, rfl, h3⟩ := h
  exact ⟨xs, h1.reads, rfl, fun x hx => (h3 x hx).reads, by simpa using hl⟩
theorem OTxns.form (h : OTxns base tt tc ti w v l) : ∃ a c, v = .slice a l.length c := by
  obtain ⟨xs, h1, rfl, h3⟩ := h
  obtain ⟨a, c, hv⟩ := h1.form
  exact ⟨a, c, by rw [hv, List.length_map]⟩
/-- Behind an append of one more. -/
theorem OTxns.pushed {xs : List TV} {v' : Value} {y : TV} (h1 : Own tvC base tt 10 w v xs) (h3 : ∀ x ∈ xs, OTxn base tc ti w x.val x.t) (hy : OTxn base tc ti w y.val y.t) (hc : tc ≠ tt) (hi : ti ≠ tt) (ho : Own tvC base tt 10 w' v' (xs ++ [y])) (hg : w.grownBy w' v.ownBlock) :
    OTxns base tt tc ti w' v' (xs.map (·.t) ++ [y.t]) := by
  refine ⟨xs ++ [y], ho, by simp, fun x hx => ?_⟩
  rcases List.mem_append.1 hx with hx | hx
  · exact (h3 x hx).grownTy h1 hc hi hg
  · rw [List.mem_singleton] at hx
    subst hx
    exact hy.grownTy h1 hc hi hg
end
/-- Element k of a slice of transactions, its slices written out. -/
theorem RTxns.at3 {w : World} {a : Option Addr} {n cap : Nat} {l : List Txn} (h : RTxns w (.slice a n cap) l) {k : Nat} (hk : k < l.length) :
    ∃ b off am cm ad cd ar cr, a = some ⟨b, off, none⟩ ∧ RTxn w (txnV l[k] (.slice am l[k].mt.length cm) (.slice ad l[k].dt.length cd) (.slice ar l[k].rev.length cr)) l[k] ∧ w.cell? ⟨b, off + k * 10, none⟩ = some (.int .i64 l[k].seq) ∧ w.cell? ⟨b, off + k * 10 + 1, none⟩ = some (.slice am l[k].mt.length cm) ∧ w.cell? ⟨b, off + k * 10 + 2, none⟩ = some (.slice ad l[k].dt.length cd) ∧ w.cell? ⟨b, off + k * 10 + 3, none⟩ = some (.slice ar l[k].rev.length cr) ∧ w.cell? ⟨b, off + k * 10 + 4, none⟩ = some (.bool l[k].h0.on) ∧ w.cell? ⟨b, off + k * 10 + 5, none⟩ = some (.int .i64 l[k].h0.left) ∧ w.cell? ⟨b, off + k * 10 + 6, none⟩ = some (.bool l[k].h1.on) ∧ w.cell? ⟨b, off + k * 10 + 7, none⟩ = some (.int .i64 l[k].h1.left) ∧ w.cell? ⟨b, off + k * 10 + 8, none⟩ = some (.bool l[k].h2.on) ∧ w.cell? ⟨b, off + k * 10 + 9, none⟩ = some (.int .i64 l[k].h2.left) := by
  obtain ⟨b, off, vm, vd, vr, ha, hr, c0, c1, c2, c3, c4⟩ := h.at hk
  have hr' := hr
  obtain ⟨vm', vd', vr', hv, hm, hd, hrr, n1, n2, n3⟩ := hr
  simp only [txnV, Value.agg.injEq, Array.mk.injEq, List.cons.injEq, and_true, true_and] at hv
  obtain ⟨rfl, rfl, rfl⟩ := hv
  obtain ⟨am, cm, rfl, _⟩ := hm.form
  obtain ⟨ad, cd, rfl, _⟩ := hd.form
  obtain ⟨ar, cr, rfl, _⟩ := hrr.form
  exact ⟨b, off, am, cm, ad, cd, ar, cr, ha, hr', c0, c1, c2, c3, c4⟩
end Wb

namespace Wb
open Go Go.RowKit
set_option linter.unusedVariables false
set_option linter.unusedSimpArgs false
section
variable {α : Type} {f : α → List Value} {base : Nat} {e : TypeId} {c : Nat} {w w' : World} {v : Value} {l : List α}
theorem flat_take (hf : ∀ x, (f x).length = c) : ∀ (l : List α) (i : Nat), i ≤ l.length → (l.flatMap f).take (i * c) = (l.take i).flatMap f
  | l, 0, _ => by simp
  | [], i + 1, h => by simp at h
  | x :: l, i + 1, h => by
    rw [List.flatMap_cons, List.take_succ_cons, List.flatMap_cons, List.take_append, List.take_of_length_le (by rw [hf, Nat.succ_mul]; omega), hf, show (i + 1) * c - c = i * c by rw [Nat.succ_mul]; omega, flat_take hf l i (by simpa using h)]
theorem flat_dropLen (hf : ∀ x, (f x).length = c) (l : List α) (i : Nat) : ((l.drop i).flatMap f).length = (l.length - i) * c := by
  rw [flat_len hf, List.length_drop]
theorem mul_split {n i c : Nat} (h : i ≤ n) : i * c + (n - i) * c = n * c := by rw [← Nat.add_mul]; congr 1; omega
/-- There is room: what stood from i on goes on by one place, then x is written. -/
theorem ins_room (hf : ∀ x, (f x).length = c) (L : List Value) (l : List α) (i cap : Nat) (x : α) (hL : L.length = cap * c) (ht : L.take (l.length * c) = l.flatMap f) (hi : i ≤ l.length) (hc : l.length + 1 ≤ cap) {L1 L2 : List Value}
    (h1 : L1 = L.take ((i + 1) * c) ++ (l.drop i).flatMap f ++ L.drop ((i + 1) * c + ((l.drop i).flatMap f).length)) (h2 : L2 = L1.take (i * c) ++ f x ++ L1.drop (i * c + (f x).length)) :
    L2.length = cap * c ∧ L2.take ((l.length + 1) * c) = (l.take i ++ x :: l.drop i).flatMap f := by
  have hx := hf x
  have hd := flat_dropLen hf l i
  have hm := mul_split (c := c) hi
  have hm2 : (l.length + 1) * c ≤ cap * c := Nat.mul_le_mul_right _ hc
  rw [Nat.succ_mul] at hm2
  have hsucc : (i + 1) * c = i * c + (f x).length := by rw [hx, Nat.succ_mul]
  rw [hsucc] at h1
  subst h1
  rw [seg2 L (i * c) (f x) ((l.drop i).flatMap f) (by rw [hx, hd, hL]; omega)] at h2
  subst h2
  have h3 : L.take (i * c) = (l.take i).flatMap f := by
    rw [← flat_take hf l i hi, ← ht, List.take_take, Nat.min_eq_left (by rw [← hm]; omega)]
  have h4 := flat_len hf (l.take i)
  rw [List.length_take, Nat.min_eq_left hi] at h4
  rw [h3]
  refine ⟨?_, ?_⟩
  · simp only [List.length_append, List.length_drop, h4, hx, hd, hL]
    omega
  · rw [List.flatMap_append, List.flatMap_cons, ← List.append_assoc]
    have h5 : ((l.take i).flatMap f ++ f x ++ (l.drop i).flatMap f).length = (l.length + 1) * c := by
      simp only [List.length_append, h4, hx, hd, Nat.succ_mul]
      omega
    rw [← h5]
    exact List.take_left
/-- There is none: a new row; x is written, then what stood from i on. -/
theorem ins_grow (hf : ∀ x, (f x).length = c) (Z : List Value) (l : List α) (i cap : Nat) (x : α) (hZ : Z.length = (cap - i) * c) (hi : i ≤ l.length) (hc : l.length + 1 ≤ cap) {L L1 L2 : List Value} (h0 : L = (l.take i).flatMap f ++ Z)
    (h1 : L1 = L.take (i * c) ++ f x ++ L.drop (i * c + (f x).length)) (h2 : L2 = L1.take ((i + 1) * c) ++ (l.drop i).flatMap f ++ L1.drop ((i + 1) * c + ((l.drop i).flatMap f).length)) :
    L2.length = cap * c ∧ L2.take ((l.length + 1) * c) = (l.take i ++ x :: l.drop i).flatMap f := by
  have hx := hf x
  have hd := flat_dropLen hf l i
  have hm := mul_split (c := c) hi
  have hm2 : (l.length + 1) * c ≤ cap * c := Nat.mul_le_mul_right _ hc
  rw [Nat.succ_mul] at hm2
  have hm3 := mul_split (c := c) (n := cap) (i := i) (by omega)
  have hsucc : (i + 1) * c = i * c + (f x).length := by rw [hx, Nat.succ_mul]
  have h4 := flat_len hf (l.take i)
  rw [List.length_take, Nat.min_eq_left hi] at h4
  have hL : L.length = cap * c := by rw [h0, List.length_append, h4, hZ]; exact hm3
  rw [hsucc] at h2
  subst h1
  rw [seg3 L (i * c) (f x) ((l.drop i).flatMap f) (by rw [hx, hd, hL]; omega)] at h2
  subst h2
  have h3 : L.take (i * c) = (l.take i).flatMap f := by
    rw [h0, ← h4]
    exact List.take_left
  rw [h3]
  refine ⟨?_, ?_⟩
  · simp only [List.length_append, List.length_drop, h4, hx, hd, hL]
    omega
  · rw [List.flatMap_append, List.flatMap_cons, ← List.append_assoc]
    have h5 : ((l.take i).flatMap f ++ f x ++ (l.drop i).flatMap f).length = (l.length + 1) * c := by
      simp only [List.length_append, h4, hx, hd, Nat.succ_mul]
      omega
    rw [← h5]
    exact List.take_left
/-- The cells of a row from element i on. -/
theorem row_from (hf : ∀ x, (f x).length = c) {g : Nat} {cur : Array Value} (hk : Blk w g cur e) (ht : cur.toList.take (l.length * c) = l.flatMap f) {i : Nat} (hi : i ≤ l.length) :
    ∀ j u, ((l.drop i).flatMap f)[j]? = some u → w.cell? ⟨g, i * c + j, none⟩ = some u := by
  intro j u hj
  have hd := flat_dropLen hf l i
  have hm := mul_split (c := c) hi
  have hlt : j < ((l.drop i).flatMap f).length := (List.getElem?_eq_some_iff.1 hj).1
  have h4 := flat_len hf (l.take i)
  rw [List.length_take, Nat.min_eq_left hi] at h4
  have h5 : (l.flatMap f)[i * c + j]? = some u := by
    conv => lhs; rw [← List.take_append_drop i l]
    rw [List.flatMap_append, List.getElem?_append_right (by omega), h4, Nat.add_sub_cancel_left]
    exact hj
  rw [← ht, List.getElem?_take, if_pos (by omega)] at h5
  rw [hk.cell, ← h5]
  simp
/-- What is cut off behind element i may be written at will. -/
theorem Own.cut {g cap : Nat} (hF : Flat f c) (h : Own f base e c w (.slice (some ⟨g, 0, none⟩) l.length cap) l) {i : Nat} (hi : i ≤ l.length) (zs : List Value) (hz : i * c + zs.length ≤ l.length * c) :
    Own f base e c (w.setCells g (i * c) zs) (.slice (some ⟨g, 0, none⟩) i cap) (l.take i) := by
  obtain ⟨h1, h2⟩ := h
  rcases h2 with ⟨h3, _⟩ | ⟨g', cap', cur, hv, hb, hg, hn, hc, hs, ht⟩
  · exact absurd h3 (by simp)
  · simp only [Value.slice.injEq, Option.some.injEq, Addr.mk.injEq, true_and, and_true] at hv
    obtain ⟨rfl, rfl⟩ := hv
    have hle : l.length * c ≤ cap * c := Nat.mul_le_mul_right _ hn
    have hk := Blk.sets (t := e) zs (i * c) w cur hg (by rw [hs]; omega)
    have hil : (l.take i).length = i := by rw [List.length_take]; omega
    have hm := mul_split (c := c) hi
    have := Own.ofRow (l := l.take i) (cap := cap) hF hb hk (by rw [hil]; omega) hc (by
      simp only [List.size_toArray, List.length_append, List.length_take, List.length_drop, Array.length_toList, hs]
      omega) (by
      rw [hil]
      show ((cur.toList.take (i * c) ++ zs) ++ _).take (i * c) = _
      rw [List.append_assoc, List.take_append_of_le_length (by rw [List.length_take, Array.length_toList, hs]; omega), List.take_take, Nat.min_self, ← flat_take hF.len l i hi, ← ht, List.take_take, Nat.min_eq_left (by omega)])
    rw [hil] at this
    exact this
/-! ### Striking elements out, in place -/
/-- j elements are looked at, i of them kept; the row holds lk. -/
def KeptI (p : α → Bool) (l : List α) (j i : Nat) (lk : List α) : Prop :=
  lk.length = l.length ∧ i = ((l.take j).filter p).length ∧ lk.take i = (l.take j).filter p ∧ lk.drop j = l.drop j
theorem KeptI.le {p : α → Bool} {j i : Nat} {lk : List α} (h : KeptI p l j i lk) : i ≤ j := by
  rw [h.2.1]
  exact Nat.le_trans (List.length_filter_le _ _) (by rw [List.length_take]; exact Nat.min_le_left _ _)
theorem KeptI.get {p : α → Bool} {j i : Nat} {lk : List α} (h : KeptI p l j i lk) (hj : j < l.length) : ∃ hk : j < lk.length, lk[j] = l[j] := by
  have hk : j < lk.length := by rw [h.1]; exact hj
  refine ⟨hk, ?_⟩
  have h1 := congrArg (fun x => x[0]?) h.2.2.2
  simp only [List.getElem?_drop, Nat.add_zero] at h1
  rw [List.getElem?_eq_getElem hk, List.getElem?_eq_getElem hj, Option.some.injEq] at h1
  exact h1
theorem KeptI.keep {p : α → Bool} {j i : Nat} {lk : List α} (h : KeptI p l j i lk) (hj : j < l.length) (hp : p l[j] = true) : KeptI p l (j + 1) (i + 1) (lk.set i l[j]) := by
  have hij := h.le
  obtain ⟨h1, h2, h3, h4⟩ := h
  have h5 : (l.take (j + 1)).filter p = (l.take j).filter p ++ [l[j]] := by rw [List.take_succ_eq_append_getElem hj, List.filter_append, List.filter_cons, if_pos hp, List.filter_nil]
  refine ⟨by simpa using h1, by rw [h5, List.length_append, ← h2]; rfl, ?_, ?_⟩
  · rw [h5, ← h3, List.take_succ_eq_append_getElem (by rw [List.length_set, h1]; omega), List.getElem_set_self]
    congr 1
    rw [List.take_set_of_le (by omega)]
  · rw [List.drop_set_of_lt (by omega), ← List.drop_drop, h4, List.drop_drop]
theorem KeptI.skip {p : α → Bool} {j i : Nat} {lk : List α} (h : KeptI p l j i lk) (hj : j < l.length) (hp : p l[j] = false) : KeptI p l (j + 1) i lk := by
  obtain ⟨h1, h2, h3, h4⟩ := h
  have h5 : (l.take (j + 1)).filter p = (l.take j).filter p := by rw [List.take_succ_eq_append_getElem hj, List.filter_append, List.filter_cons, if_neg (by rw [hp]; simp), List.filter_nil, List.append_nil]
  exact ⟨h1, by rw [h5, ← h2], by rw [h5, ← h3], by rw [← List.drop_drop, h4, List.drop_drop]⟩
theorem KeptI.start {p : α → Bool} {k : Nat} (hk : k < l.length) (h : ∀ i (hi : i < l.length), i < k → p l[i] = true) (hp : p l[k] = false) : KeptI p l (k + 1) k l := by
  have h5 : (l.take k).filter p = l.take k := List.filter_eq_self.2 (fun x hx => by
    obtain ⟨i, hi, rfl⟩ := List.getElem_of_mem hx
    rw [List.length_take] at hi
    rw [List.getElem_take]
    exact h i (by omega) (by omega))
  refine KeptI.skip ⟨rfl, ?_, ?_, rfl⟩ hk hp
  · rw [h5, List.length_take]; omega
  · rw [h5]
theorem KeptI.done {p : α → Bool} {j i : Nat} {lk : List α} (h : KeptI p l j i lk) (hj : l.length ≤ j) : lk.take i = l.filter p ∧ i = (l.filter p).length := by
  obtain ⟨h1, h2, h3, h4⟩ := h
  rw [List.take_of_length_le hj] at h2 h3
  exact ⟨h3, h2⟩
theorem filter_all {p : α → Bool} (h : ∀ i (hi : i < l.length), p l[i] = true) : l.filter p = l := List.filter_eq_self.2 (fun x hx => by
  obtain ⟨i, hi, rfl⟩ := List.getElem_of_mem hx
  exact h i hi)
end
end Wb
