/- Parts of the proof: Range TSm TSn JnT TxnC TxnG TxnH TxnI. -/
import Derived.Test.YtjhmfljlclajnacGreatDoorKTopSpace4
import Derived.RangeFuncNested
import Derived.OrdersIn
import Derived.Test.YtjhmfljlclajnacGreatDoorKTopSpace0
import Derived.Deep.QuietTactic
import Derived.BigQuiet
import Derived.ChangeKeysEq
import Derived.Test.YtjhmfljlclajnacGreatDoorChecked
import Derived.Deep.DeepCutAuto
import Derived.Test.YtjhmfljlclajnacGreatDoorKTopSpace5
import Derived.Test.YtjhmfljlclajnacGreatDoorKTopSpace8
import Derived.Test.YtjhmfljlclajnacGreatDoorKTopSpace6
set_option linter.unusedVariables false
set_option linter.unusedSimpArgs false
namespace Wb
open Go Go.RowKit
abbrev FW : Fence := Fence.wide
def Iter (P : Program) (gf : Nat) (lb : Array Value) (xs : List Value) (B : List Nat) (w : World) : Prop :=
  ∀ (l : Nat) (J : Nat → World → Prop) (W : World), (∀ b ∈ B, W.heap[b]? = w.heap[b]?) → (∀ k A A', J k A → Below A.heap.size A A' → J k A') →
    (∀ k (hk : k < xs.length) A, J k A → YieldAt FW 0 P l #[xs[k]] A fun e A' => e = .returned (.bool true) ∧ J (k + 1) A' ∧ A.heap.size ≤ A'.heap.size ∧ ∀ b ∈ B, A'.heap[b]? = A.heap[b]?) →
    J 0 W → CallsIn FW 0 P gf (#[.func (.yield l) #[] #[]] ++ lb) W fun e W' => (∃ v, e = .returned v) ∧ J xs.length W'
section
variable {P : Program} {Q : Exit → Act → World → Prop} {a : Act} {w : World}
structure AtBody (W W1 : World) (p : Prop) : Prop where
  eq : W1 = W
  run : p
def BodyRun (P : Program) (body : Code) (w : World) (B : List Nat) (I : Nat → World → Prop) (k l : Nat) (a1 : Act) : Prop :=
  ∀ W2, w.heap.size ≤ W2.heap.size → I k W2 → body.wpIn (FW.inRound l) 0 P (fun e _ W' => e = .normal ∧ KeepsFrom w.heap.size W2 W' ∧ (∀ b ∈ B, W'.heap[b]? = W2.heap[b]?) ∧ I (k + 1) W') a1 W2
theorem wp_range {g : Operand} {p : Tmp} {assign body : Code} {gf : Nat} {lb : Array Value} {xs : List Value} {B : List Nat} (hg : a.eval g = .func (.func gf) #[] lb) (eg : ∀ args w, (callFunc gf args).run P w = .ok (.enter gf args) w)
    (hB : ∀ b ∈ B, b < w.heap.size) (hit : Iter P gf lb xs B w) (I : Nat → World → Prop) (hI : ∀ k A A', I k A → Below A.heap.size A A' → I k A')
    (hI2 : ∀ k A l o o', I k A → w.heap.size ≤ l → A.heap[l]? = some o → o.isCells = false → I k (A.putObj l o')) (h0 : I 0 w)
    (hround : ∀ k (hk : k < xs.length) l W, assign.wpIn (FW.inRound l) 0 P (Exit.then (fun a1 W1 => AtBody W W1 (BodyRun P body w B I k l a1)) (fun _ _ _ => False)) { tmps := a.tmps.setIfInBounds p xs[k], defers := [] } W)
    (hdone : ∀ D W, w.heap.size ≤ D → I xs.length W → W.heap[D]? = some (.deferred (some [])) → Q .normal { a with defers := { target := .collected D, args := #[] } :: a.defers } W) :
    (Code.rangeFunc g #[p] assign body).wp P Q a w := by
  refine (wpIn_wide (n := 0)).1 (wpIn_rangeFunc fun fn hfn => ?_)
  obtain ⟨rec, hrec⟩ : ∃ rec : LoopState → Option Code → Loop, rec = fun st pe => { state := st, pending := pe, fn, tmps := a.tmps, params := #[p], assign, body, defers := w.heap.size } := ⟨_, rfl⟩
  obtain ⟨W1, hW1⟩ : ∃ W1, (w.alloc (.deferred (some []))).alloc (.loop (rec .ready none)) = W1 := ⟨_, rfl⟩
  have hb1 : Below w.heap.size w W1 := by rw [← hW1]; exact bal (bal (b0 w) _) _
  have hL1 : W1.heap[w.heap.size + 1]? = some (.loop (rec .ready none)) := by
    rw [← hW1]; have := World.alloc_heap_new (w.alloc (.deferred (some []))) (.loop (rec .ready none)); rwa [World.size_alloc] at this
  have hK1 : W1.heap[w.heap.size]? = some (.deferred (some [])) := by
    rw [← hW1]; exact (Below.heap_alloc _ _ _ (by simp)).trans (World.alloc_heap_new w _)
  have hne : ∀ {W : World} {l : Nat} {o : Obj}, w.heap.size ≤ l → ∀ b ∈ B, (W.putObj l o).heap[b]? = W.heap[b]? := fun hl b hb => World.putObj_heap_other (by have := hB b hb; omega)
  refine ⟨w.heap.size + 1, [{ target := .collected w.heap.size, args := #[] }], W1, { target := .fn (.func gf) lb, args := #[.func (.yield (w.heap.size + 1)) #[] #[]] }, W1, gf,
    #[.func (.yield (w.heap.size + 1)) #[] #[]] ++ lb, W1, ?_, ?_, fun _ _ => trivial, ?_, fun h => by simp [Fence.wide] at h, ?_⟩
  · rw [← hW1, hrec]; exact run_enterLoop_outer _ _ _ _ _
  · simp only [resolve, hg]
    simp [go_sem]
  · simp [invoke, go_sem, eg]
  refine (hit (w.heap.size + 1) (fun k W => I k W ∧ W.heap[w.heap.size + 1]? = some (.loop (rec .ready none)) ∧ W.heap[w.heap.size]? = some (.deferred (some [])) ∧ w.heap.size ≤ W.heap.size) W1
    (fun b hb => hb1.block b (hB b hb)) (fun k A A' h hb => ?_) (fun k hk A h => ?_) ⟨hI _ _ _ h0 hb1, hL1, hK1, hb1.size⟩).mono ?_
  · obtain ⟨h1, h2, h3, h4⟩ := h
    exact ⟨hI _ _ _ h1 hb, (hb.block _ (Array.getElem?_eq_some_iff.1 h2).1).trans h2, (hb.block _ (Array.getElem?_eq_some_iff.1 h3).1).trans h3, Nat.le_trans h4 hb.size⟩
  · obtain ⟨hi, hl, hk1, hsz⟩ := h
    have hlt : w.heap.size + 1 < A.heap.size := (Array.getElem?_eq_some_iff.1 hl).1
    have hy := run_yield (P := P) (args := #[xs[k]]) hl (by rw [hrec]; simp)
    rw [hrec] at hy
    have hl2 : (A.putObj (w.heap.size + 1) (.loop { rec .ready none with state := .busy })).heap[w.heap.size + 1]? = some (.loop { rec .ready none with state := .busy }) := World.putObj_heap_same hlt
    have hk2 : (A.putObj (w.heap.size + 1) (.loop { rec .ready none with state := .busy })).heap[w.heap.size]? = some (.deferred (some [])) := (World.putObj_heap_other (by omega)).trans hk1
    have hts : (#[p].zip #[xs[k]]).foldl (fun t (x : Tmp × Value) => t.setIfInBounds x.1 x.2) a.tmps = a.tmps.setIfInBounds p xs[k] := by simp
    refine ⟨fn, _, assign, body, hy, roundIn_of_wpIn hfn ?_⟩
    have hr0 := hround k hk (w.heap.size + 1) A
    rw [← hts] at hr0
    refine wpIn_mono hr0 ?_
    intro e a1 W1 hq
    cases e with
    | normal =>
      obtain ⟨rfl, hq⟩ := hq
      refine ⟨_, run_beginRound hl (by rw [hrec]), wpIn_mono (hq _ (by simpa using hsz) (hI2 _ _ _ _ _ hi (by omega) hl rfl)) ?_⟩
      rintro e a3 W3 ⟨rfl, hk3, hB3, hi3⟩
      have hl3 := hk3.same _ _ (by omega) hl2 rfl
      have hr := run_endRound (P := P) none hl3
      rw [hrec] at hr hl3 ⊢
      have hlt3 := (Array.getElem?_eq_some_iff.1 hl3).1
      refine ⟨_, _, hr, rfl, ⟨hI2 _ _ _ _ _ hi3 (by omega) hl3 rfl, World.putObj_heap_same hlt3, (World.putObj_heap_other (by omega)).trans (hk3.same _ _ (Nat.le_refl _) hk2 rfl), ?_⟩, ?_, fun b hb => ?_⟩
      · have := hk3.size; simp at this ⊢; omega
      · have := hk3.size; simp at this ⊢; omega
      · rw [hne (by omega) b hb, hB3 b hb]
        exact hne (by omega) b hb
    | _ => exact hq.elim
  · rintro e W2 ⟨⟨v, rfl⟩, hi, hl, hk, hsz⟩
    exact ⟨none, _, by have := run_endLoop (P := P) hl (by rw [hrec]; simp); rw [hrec] at this; exact this, hdone _ _ (Nat.le_refl _) (hI2 _ _ _ _ _ hi (by omega) hl rfl) ((World.putObj_heap_other (by omega)).trans hk)⟩
theorem upon_in {F : Fence} {n : Nat} (hd : F.depth = none) (hf : ∀ f, F.fn f) (hF : ∀ m, Machine.fenced P F m) {o : Oper} {K : Act → World → Prop} : ∀ {r : Result Next}, o.upon P a K Q r → o.uponIn F n P a K Q r
  | .ok (.value v) w', h => h
  | .ok .skip w', h => h
  | .ok (.defer d) w', h => h
  | .ok (.enter f args) w', h => ⟨fun hh => (by rw [hd] at hh; cases hh), hf f, fun cs _ => by
      obtain ⟨e, w2, fr, h1, h2, h3⟩ := h cs
      refine ⟨e, w2, fr, ?_, ?_, h3⟩
      · cases e <;> exact h1
      · cases e with
        | returned v => exact (StepsIn.of_steps h2).mono fun m _ => hF m
        | panicked c => exact (StepsIn.of_steps h2).mono fun m _ => hF m
        | outgrown => exact h2⟩
  | .ok (.row row args) w', h => ⟨fun hh => (by rw [hd] at hh; cases hh), fun c cs _ => by
      obtain ⟨v, w2, h1, h2⟩ := h c cs
      exact ⟨v, w2, h1, (StepsIn.of_steps h2).mono fun m _ => hF m⟩⟩
  | .ok (.round ..) w', h => h.elim
  | .halt x w', h => by cases x <;> first | exact h | exact h.elim
def noDefer : Oper → Bool := fun o => match o.op with | .defer _ => false | _ => true
theorem oper_in {F : Fence} {n : Nat} (hd : F.depth = none) (hf : ∀ f, F.fn f) (hF : ∀ m, Machine.fenced P F m) {o : Oper} (ho : noDefer o = true) {K : Act → World → Prop} (h : o.wp P a w K Q) : o.wpIn F n P a w K Q := by
  have hs : o.semAt F.round a.eval = execOp a.eval o := by
    cases hr : F.round with
    | none => simp [Oper.semAt]
    | some l => exact Oper.semAt_some l _ _ fun c hc => by unfold noDefer at ho; rw [hc] at ho; cases ho
  refine ⟨fun f _ => hf f, ?_⟩
  rw [hs]
  exact upon_in hd hf hF h
theorem list_in {F : Fence} {n : Nat} (hd : F.depth = none) (hf : ∀ f, F.fn f) (hF : ∀ m, Machine.fenced P F m) {ops : Array Oper} (hno : ∀ a w, ¬ Q .outgrown a w) : ∀ (l : List Oper) (a : Act) (w : World), l.all noDefer = true → wpList P ops Q l a w → wpListIn F n P ops Q l a w
  | [], _, _, _, h => h
  | o :: r, a, w, hn, h => by
    rw [List.all_cons, Bool.and_eq_true] at hn
    unfold wpList at h
    unfold wpListIn
    split at h
    · rename_i hw
      rw [if_pos hw]
      exact Oper.wpIn_mono (fun a w hh => list_in hd hf hF hno r a w hn.2 hh) (oper_in hd hf hF hn.1 (h.resolve_right fun hh => by obtain ⟨_, a, w, hq⟩ := hh; exact hno a w hq))
    · rename_i hw
      rw [if_neg hw]
      exact ⟨fun f _ => hf f, list_in hd hf hF hno r _ _ hn.2 h⟩
theorem region_in {l id : Nat} {ops : List Oper} (hn : ops.all noDefer = true) (hno : ∀ a w, ¬ Q .outgrown a w) (h : wpList P ops.toArray Q ops a w) : (Code.region id ops.toArray false).wpIn (FW.inRound l) 0 P Q a w :=
  wpIn_region_lit (list_in (F := FW.inRound l) rfl (fun _ => trivial) (fun m => fenced_wide P m) hno _ _ _ hn h)
end
section
variable {S : List Nat} {w0 W W' : World} {L L' : List Ent} {R R' : List Rd}
theorem St.restart (X : St S w0 W L R) : St (L.map Ent.g) W W L R := ⟨Mv.refl _ _, X.nd, X.blk, fun e he => .inl (List.mem_map_of_mem he), X.rd⟩
theorem St.back (X : St S w0 W L R) (Y : St (L.map Ent.g) W W' L' R') : St S w0 W' L' R' :=
  ⟨X.mv.then Y.mv fun k hk => by
      obtain ⟨e, he, rfl⟩ := List.mem_map.1 hk
      exact X.own e he, Y.nd, Y.blk, fun e he => by
      rcases Y.own e he with h | h
      · obtain ⟨e2, he2, heq⟩ := List.mem_map.1 h
        rw [← heq]; exact X.own e2 he2
      · exact .inr (Nat.le_trans X.mv.size h), Y.rd⟩
theorem St.keepsFrom (X : St S w0 W L R) (Y : St (L.map Ent.g) W W' L' R') (B : Nat) : KeepsFrom B W W' :=
  ⟨Y.mv.size, fun k o _ hk ho => by
    refine (Y.mv.block k (Array.getElem?_eq_some_iff.1 hk).1 fun hm => ?_).trans hk
    obtain ⟨e, he, rfl⟩ := List.mem_map.1 hm
    have := X.blk e he
    unfold Blk at this
    rw [this] at hk
    cases hk
    cases ho⟩
theorem St.other (X : St S w0 W L R) (Y : St (L.map Ent.g) W W' L' R') {D : Nat} {o : Obj} (hD : W.heap[D]? = some o) (ho : o.isCells = false) : W'.heap[D]? = some o := (X.keepsFrom Y 0).same D o (Nat.zero_le _) hD ho
theorem St.putO (X : St S w0 W L R) {l : Nat} {o : Obj} (o' : Obj) (hl : w0.heap.size ≤ l) (ho : W.heap[l]? = some o) (hc : o.isCells = false) (hS : l ∉ S) : St S w0 (W.putObj l o') L R := by
  have hne : ∀ {b : Nat} {cs t f}, W.heap[b]? = some (.cells cs t f) → b ≠ l := fun hb e => by
    rw [e, ho] at hb; cases hb; cases hc
  have hcell : ∀ {b j : Nat} {u : Value}, W.cell? ⟨b, j, none⟩ = some u → (W.putObj l o').cell? ⟨b, j, none⟩ = some u := fun {b j u} h => by
    obtain ⟨q, hq, hw⟩ := not_walk_of_cell h
    have hb : b ≠ l := fun e => by
      subst e
      unfold World.cell? at h
      rw [ho] at h
      cases o <;> simp_all [Obj.isCells]
    rw [← h]
    exact World.cell?_of_block (World.putObj_heap_other hb)
  refine ⟨⟨X.mv.os, X.mv.tape, X.mv.output, by simpa using X.mv.size, fun k hk hn => ?_⟩, X.nd, fun e he => ?_, X.own, fun r hr => ⟨?_, (X.rd r hr).2⟩⟩
  · rw [World.putObj_heap_other (by omega)]; exact X.mv.block k hk hn
  · have := X.blk e he
    unfold Blk at this ⊢
    rw [World.putObj_heap_other (hne this)]; exact this
  · obtain ⟨a, cap, hv, h1, h2, h3⟩ := (X.rd r hr).1
    exact ⟨a, cap, hv, h1, h2, h3.imp id fun ⟨b, off, ha, hc2⟩ => ⟨b, off, ha, fun j u hj => hcell (hc2 j u hj)⟩⟩
end
theorem St.gs6 {S : List Nat} {w0 w : World} {a b c d e f : Nat} {ca cb cc cd ce cf : List Value} {ta tb tc td te tf : TypeId} {L : List Ent} {R : List Rd} (_ : St S w0 w (⟨a, ca, ta⟩ :: ⟨b, cb, tb⟩ :: ⟨c, cc, tc⟩ :: ⟨d, cd, td⟩ :: ⟨e, ce, te⟩ :: ⟨f, cf, tf⟩ :: L) R) : ∃ x1 x2 x3 x4 x5 x6, x1 = a ∧ x2 = b ∧ x3 = c ∧ x4 = d ∧ x5 = e ∧ x6 = f := ⟨_, _, _, _, _, _, rfl, rfl, rfl, rfl, rfl, rfl⟩
theorem St.gs4 {S : List Nat} {w0 w : World} {a b c d : Nat} {ca cb cc cd : List Value} {ta tb tc td : TypeId} {L : List Ent} {R : List Rd} (_ : St S w0 w (⟨a, ca, ta⟩ :: ⟨b, cb, tb⟩ :: ⟨c, cc, tc⟩ :: ⟨d, cd, td⟩ :: L) R) : ∃ x1 x2 x3 x4, x1 = a ∧ x2 = b ∧ x3 = c ∧ x4 = d := ⟨_, _, _, _, rfl, rfl, rfl, rfl⟩
theorem St.front (pre : List Ent) {S : List Nat} {w0 w : World} {x : Ent} {L : List Ent} {R : List Rd} (X : St S w0 w (pre ++ x :: L) R) : St S w0 w (x :: (pre ++ L)) R := X.perm List.perm_middle
theorem St.gs2 {S : List Nat} {w0 w : World} {a b : Nat} {ca cb : List Value} {ta tb : TypeId} {L : List Ent} {R : List Rd} (_ : St S w0 w (⟨a, ca, ta⟩ :: ⟨b, cb, tb⟩ :: L) R) : ∃ x1 x2, x1 = a ∧ x2 = b := ⟨_, _, rfl, rfl⟩
theorem St.gs1 {S : List Nat} {w0 w : World} {a : Nat} {ca : List Value} {ta : TypeId} {L : List Ent} {R : List Rd} (_ : St S w0 w (⟨a, ca, ta⟩ :: L) R) : ∃ x1, x1 = a := ⟨_, rfl⟩
theorem St.less {S : List Nat} {w0 w : World} {L L2 : List Ent} {R R2 : List Rd} (X : St S w0 w L R) (hL : L2.Sublist L) (hR : ∀ r ∈ R2, r ∈ R) : St S w0 w L2 R2 :=
  ⟨X.mv, (hL.map _).nodup X.nd, fun x hx => X.blk x (hL.subset hx), fun x hx => X.own x (hL.subset hx), fun r hr => ⟨(X.rd r (hR r hr)).1, (X.rd r (hR r hr)).2.imp id fun h b hb x hx => h b hb x (hL.subset hx)⟩⟩
theorem own_base {α : Type} {f : α → List Value} {base : Nat} {e : TypeId} {c : Nat} {w : World} {v : Value} {l : List α} (hF : Flat f c) (h : Wb.Own f base e c w v l) (hl : 0 < l.length) : ∃ g cap, v = .slice (some ⟨g, 0, none⟩) l.length cap ∧ l.length ≤ cap ∧ cap ≤ maxLen := by
  obtain ⟨h1, h2⟩ := h
  rcases h2 with ⟨rfl, h0⟩ | ⟨g, cap, cur, rfl, hb, hg, hn, hc, hs, ht⟩
  · omega
  · exact ⟨g, cap, rfl, hn, hc⟩
theorem RL.part {α : Type} {f : α → List Value} {c : Nat} (hF : ∀ x, (f x).length = c) {w : World} {b off n cap : Nat} {l : List α} (h : RL f w (.slice (some ⟨b, off, none⟩) n cap) l) (j m : Nat) (hm : j + m ≤ l.length) : RL f w (.slice (some ⟨b, off + j * c, none⟩) m m) ((l.drop j).take m) := by
  obtain ⟨a, cap', hv, h1, h2, h3⟩ := h
  have hl : ((l.drop j).take m).length = m := by rw [List.length_take, List.length_drop]; omega
  refine ⟨_, m, by rw [hl], by rw [hl]; exact Nat.le_refl _, by omega, ?_⟩
  rcases h3 with h3 | ⟨b', off', ha, hc⟩
  · left
    have h4 := flat_len hF l
    rw [h3, List.length_nil] at h4
    have h5 := flat_len hF ((l.drop j).take m)
    rw [hl] at h5
    have : m * c = 0 := by
      rcases Nat.mul_eq_zero.1 h4.symm with h6 | h6
      · have : m = 0 := by omega
        rw [this, Nat.zero_mul]
      · rw [h6, Nat.mul_zero]
    rw [this] at h5
    exact List.length_eq_zero_iff.1 h5
  · right
    cases hv; cases ha
    refine ⟨b, off + j * c, rfl, fun i u hi => ?_⟩
    rw [Nat.add_assoc]
    apply hc
    have e : l.flatMap f = (l.take j).flatMap f ++ ((l.drop j).take m).flatMap f ++ ((l.drop j).drop m).flatMap f := by
      rw [← List.flatMap_append, ← List.flatMap_append, List.append_assoc, List.take_append_drop, List.take_append_drop]
    have hl2 : ((l.take j).flatMap f).length = j * c := by rw [flat_len hF, List.length_take]; congr 1; omega
    rw [e, List.append_assoc, List.getElem?_append_right (by omega), hl2, Nat.add_sub_cancel_left, List.getElem?_append_left (List.getElem?_eq_some_iff.1 hi).1]
    exact hi
theorem St.partR {S : List Nat} {w0 w : World} {L : List Ent} {R : List Rd} (X : St S w0 w L R) {α : Type} {f : α → List Value} {c : Nat} (hF : ∀ x, (f x).length = c) {b off n cap : Nat} {l : List α} (hR : Rd.of f (.slice (some ⟨b, off, none⟩) n cap) l ∈ R) (j m : Nat) (hm : j + m ≤ l.length) :
    St S w0 w L (Rd.of f (.slice (some ⟨b, off + j * c, none⟩) m m) ((l.drop j).take m) :: R) := by
  obtain ⟨h1, h2⟩ := X.rd _ hR
  refine X.addR (RL.part hF h1 j m hm) ?_
  rcases h2 with h2 | h2
  · left
    have h3 : l.flatMap f = [] := h2
    have h4 := flat_len hF l
    rw [h3, List.length_nil] at h4
    have h5 := flat_len hF ((l.drop j).take m)
    rw [List.length_take, List.length_drop] at h5
    have : min m (l.length - j) * c = 0 := by
      rcases Nat.mul_eq_zero.1 h4.symm with h6 | h6
      · have : min m (l.length - j) = 0 := by omega
        rw [this, Nat.zero_mul]
      · rw [h6, Nat.mul_zero]
    rw [this] at h5
    exact List.length_eq_zero_iff.1 h5
  · right
    intro b' hb e he
    cases hb
    exact h2 b rfl e he
theorem St.shortR {S : List Nat} {w0 w : World} {L : List Ent} {R : List Rd} (X : St S w0 w L R) {α : Type} {f : α → List Value} {a : Option Addr} {cap : Nat} {l : List α} (hR : Rd.of f (.slice a l.length cap) l ∈ R) : St S w0 w L (Rd.of f (.slice a l.length l.length) l :: R) := by
  obtain ⟨⟨a', c', hv, h1, h3, h4⟩, h2⟩ := X.rd _ hR
  cases hv
  exact X.addR ⟨_, _, rfl, Nat.le_refl _, Nat.le_trans h1 h3, h4⟩ (h2.imp id fun h b hb => h b (by cases a with | none => cases hb | some x => exact hb))
section
variable {P : Program} {fn : Func} {F : Ending → World → Prop} {a : Act} {w w0 : World} {S : List Nat} {L : List Ent} {R : List Rd}
theorem leave0 (h : bodyPost P fn F .ret a w) : bodyPostM FW 0 P fn F .ret a w := by
  obtain ⟨hd, v, h1, h2⟩ := h
  show LeavesInM FW 0 P fn a.tmps F a.defers .returning w
  rw [hd]
  exact ⟨v, h1, h2⟩
theorem leaveD {D : Nat} {ds : List Deferred} {T : Array Value} (hD : w.heap[D]? = some (.deferred (some []))) (h : LeavesInM FW 0 P fn T F ds .returning (w.putObj D (.deferred none))) : LeavesInM FW 0 P fn T F ({ target := .collected D, args := #[] } :: ds) .returning w :=
  ⟨by simp, .inl ⟨_, _, rfl, run_takeDeferred hD, h⟩⟩
theorem m_leave2 {D1 D2 : Nat} {p q r : Tmp} {T : TypeId} (hr : fn.results = #[.cell p T, .tmp q, .tmp r]) {g : Nat} (hp : EvR a (.tmp p) (.pointer (some ⟨g, 0, none⟩))) {v u : Value} (hq : EvR a (.tmp q) v) (hu : EvR a (.tmp r) u) {n : Nat} [hT : AggT P T n] (X : St S w0 w L R)
    {cs : List Value} {t : TypeId} (he : ⟨g, cs, t⟩ ∈ L) (hn : cs.length = n) (hd : a.defers = [{ target := .collected D2, args := #[] }, { target := .collected D1, args := #[] }]) (h1 : w.heap[D1]? = some (.deferred (some []))) (h2 : w.heap[D2]? = some (.deferred (some []))) (h12 : D1 ≠ D2)
    (s1 : w0.heap.size ≤ D1) (s2 : w0.heap.size ≤ D2) (n1 : D1 ∉ S) (n2 : D2 ∉ S) (h : ∀ w', St S w0 w' L R → F (.returned (.tuple #[.agg cs.toArray, v, u])) w') : bodyPostM FW 0 P fn F .ret a w := by
  have hp' : a.tmps[p]?.getD undef = .pointer (some ⟨g, 0, none⟩) := by have := hp.eval; simpa [Act.eval] using this
  have hq' : a.tmps[q]?.getD undef = v := by have := hq.eval; simpa [Act.eval] using this
  have hu' : a.tmps[r]?.getD undef = u := by have := hu.eval; simpa [Act.eval] using this
  have h1' : (w.putObj D2 (.deferred none)).heap[D1]? = some (.deferred (some [])) := (World.putObj_heap_other h12).trans h1
  have X2 := (X.putO (.deferred none) s2 h2 rfl n2).putO (.deferred none) s1 h1' rfl n1
  show LeavesInM FW 0 P fn a.tmps F a.defers .returning w
  rw [hd]
  refine leaveD h2 (leaveD h1' ⟨.tuple #[.agg cs.toArray, v, u], ?_, h _ X2⟩)
  simp [results, hr, hp', hq', hu', asAddr, X2.whole (T := T) he hn]
def leavePost (P : Program) (fn : Func) (F : Ending → World → Prop) : Exit → Act → World → Prop
  | .ret, a, w => bodyPostM FW 0 P fn F .ret a w
  | .normal, a, w => bodyPostM FW 0 P fn F .normal a w
  | _, _, _ => False
theorem calls_marks {f : FuncId} {c : Code} {args : Array Value} {R : Ending → World → Prop} (hf : P.funcs[f]? = some fn) (hb : fn.body = some c)
    (h : c.wp P (leavePost P fn R) { tmps := args ++ Array.replicate (fn.ntmps - args.size) undef, defers := [] } w) : Calls P f args w R :=
  (callsIn_wide (n := 0)).1 (callsIn_of_wp_marks hf hb trivial ((wpIn_wide (n := 0)).2 (wp_mono h fun e a w hq => by cases e <;> first | exact hq | exact hq.elim)) rfl)
end
end Wb
namespace Go.Proofs.YtjhmfljlclajnacGreatDoor
open Go.RowKit Wb
set_option maxRecDepth 100000
set_option maxHeartbeats 4000000
instance aggHnd3 : AggT Tryz.prog 38 6 := ⟨⟨_, Tryz.underlying38, rfl⟩, by kernel_rfl⟩
end Go.Proofs.YtjhmfljlclajnacGreatDoor
namespace Wb
open Go Go.RowKit
theorem St.rtxnX {S : List Nat} {w0 w : World} {L : List Ent} {R : List Rd} (X : St S w0 w L R) {t : Txn} {vm vd vr : Value} (z1 : t.mt.length ≤ 5864062014805) (z2 : t.dt.length ≤ 5864062014805) (z3 : t.rev.length ≤ 17592186044160) (h1 : Rd.of cpyC vm t.mt ∈ R) (h2 : Rd.of cpyC vd t.dt ∈ R) (h3 : Rd.of intC vr t.rev ∈ R) :
    RTxn w (.agg #[.int .i64 t.seq, vm, vd, vr, .bool t.h0.on, .int .i64 t.h0.left, .bool t.h1.on, .int .i64 t.h1.left, .bool t.h2.on, .int .i64 t.h2.left]) t := ⟨_, _, _, rfl, X.read h1, X.read h2, X.read h3, z1, z2, z3⟩
end Wb
namespace Go.Proofs.YtjhmfljlclajnacGreatDoor
open Go.RowKit Wb
set_option maxRecDepth 100000
set_option maxHeartbeats 8000000
section
variable {S : List Nat} {w0 w : World} {L LL : List Ent} {RR : List Rd} {g : Nat} {j : Jn} {M : List Ent} {Rj : List Rd}
theorem jr_RunningS (F : JF g j M Rj) (X : St S w0 w LL RR) (hp : LL.Perm (M ++ L)) (hr : ∀ r ∈ Rj, r ∈ RR) {t : Txn} (hd : j.now = t) :
    Calls Tryz.prog 13 #[.pointer (some ⟨g, 0, none⟩)] w fun e w' => ∃ a1 c1 a2 c2 a3 c3, e = .returned (txnV t (.slice a1 t.mt.length c1) (.slice a2 t.dt.length c2) (.slice a3 t.rev.length c3)) ∧ RTxn w' (txnV t (.slice a1 t.mt.length c1) (.slice a2 t.dt.length c2) (.slice a3 t.rev.length c3)) t ∧ St S w0 w' LL (Rd.of intC (.slice a3 t.rev.length c3) t.rev :: Rd.of cpyC (.slice a2 t.dt.length c2) t.dt :: Rd.of cpyC (.slice a1 t.mt.length c1) t.mt :: RR) := by
  subst hd
  have X2 : St S w0 w (M ++ L) (Rj ++ RR) := (X.perm hp).rds fun r h => (List.mem_append.1 h).elim (hr r) id
  have hsz : JSz j := by obtain ⟨v, ds, fs, MD, MU, hm, _⟩ := F; exact hm.inv.sz hm.sz
  obtain ⟨z1, z2, z3⟩ := hsz.now
  refine (jr_Running F X2).mono ?_
  rintro e w' ⟨a1, c1, a2, c2, a3, c3, rfl, X3⟩
  refine ⟨a1, c1, a2, c2, a3, c3, rfl, ⟨_, _, _, rfl, X3.read (.tail _ (.tail _ (.head _))), X3.read (.tail _ (.head _)), X3.read (.head _), by omega, by omega, by omega⟩, (X3.perm hp.symm).rds fun r h => ?_⟩
  rcases List.mem_cons.1 h with rfl | h
  · exact .head _
  rcases List.mem_cons.1 h with rfl | h
  · exact .tail _ (.head _)
  rcases List.mem_cons.1 h with rfl | h
  · exact .tail _ (.tail _ (.head _))
  · exact .tail _ (.tail _ (.tail _ (List.mem_append_right _ h)))
end
end Go.Proofs.YtjhmfljlclajnacGreatDoor
namespace Wb
open Go Go.RowKit
theorem InvJ.ringG {j : Jn} (h : InvJ j) : goodR j.ring = true := by
  cases h with
  | idle hd hw hu hn hs => exact hu.ring
  | sealing d r us k hd hw hu hn he hq hq2 hr => rw [hr]; exact (comR_used he).1
  | homing d k hd hw hu => exact hu.ring
  | off hj hu => rw [hj]; rfl
  | rising d k hj => rw [hj]; rfl
theorem InvJ.nowG {j : Jn} (h : InvJ j) (hd : j.down = false) : goodT j.now = true ∧ j.last < j.now.seq := by
  cases h with
  | idle hd hw hu hn hs => exact ⟨hn.good, by have := hn.seq; omega⟩
  | sealing d r us k hd hw hu hn he hq hq2 hr => exact ⟨hn.good, by have := hn.seq; omega⟩
  | homing d k hd hw hu hn => exact ⟨hn.good, by have := hn.seq; omega⟩
  | off hj hu => rw [hj] at hd; cases hd
  | rising d k hj => rw [hj] at hd; cases hd
def stepC (l : List Cpy) (k : Nat) : Prop := ∀ (hk : k < l.length), isBlk l[k].block = true ∧ l[k].text.size = 32 ∧ (∀ (h : 0 < k), l[k - 1].block < l[k].block)
theorem copies_iff (l : List Cpy) : copiesB l = true ↔ ∀ k, k < l.length → stepC l k := by
  unfold copiesB
  rw [Bool.and_eq_true, rise_iff, List.all_eq_true]
  have hg : ∀ j (hj : j < l.length), (blks l).getD j 0 = l[j].block := fun j hj => by simp [blks, hj]
  have hlen : (blks l).length = l.length := by simp [blks]
  constructor
  · rintro ⟨h1, h2⟩ k hk hk2
    have := h1 k (by omega)
    unfold riseAt at this
    rw [hg k hk] at this
    refine ⟨decide_eq_true ⟨this.1, this.2.1⟩, of_decide_eq_true (h2 _ (List.getElem_mem hk)), fun h => ?_⟩
    have h3 := this.2.2 h
    rw [hg (k - 1) (by omega)] at h3
    exact h3
  · intro h
    refine ⟨fun k hk => ?_, fun x hx => ?_⟩
    · have hk2 : k < l.length := by omega
      obtain ⟨g1, g2, g3⟩ := h k hk2 hk2
      have g1 := of_decide_eq_true g1
      unfold riseAt
      rw [hg k hk2]
      refine ⟨g1.1, g1.2, fun h0 => ?_⟩
      rw [hg (k - 1) (by omega)]
      exact g3 h0
    · obtain ⟨k, hk, rfl⟩ := List.mem_iff_getElem.1 hx
      exact decide_eq_true (h k hk hk).2.1
theorem copies_bad {l : List Cpy} {k : Nat} (hk : k < l.length) (h : ¬ stepC l k) : copiesB l = false := by
  rw [← Bool.not_eq_true, copies_iff]
  exact fun hh => h (hh k hk)
def hndC (h : Hnd) : List Value := [.bool h.on, .int .i64 h.left]
end Wb
namespace Go.Proofs.YtjhmfljlclajnacGreatDoor
open Go.RowKit Wb
set_option maxRecDepth 100000
set_option maxHeartbeats 4000000
theorem txn_handle (b : Int) (w : World) : Calls Tryz.prog 126 #[.int .i64 b] w fun e w' => e = .returned (.bool (isHnd b)) ∧ w = w' := by
  by_cases h0 : 0 ≤ b
  · by_cases h1 : b < 3
    · have hv : isHnd b = true := decide_eq_true ⟨h0, h1⟩
      rw [hv]
      go_enter Tryz.func126, Tryz.ntmps126
      go_wp2
      go_ret
      exact ⟨rfl, rfl⟩
    · have hv : isHnd b = false := decide_eq_false fun hh => h1 hh.2
      rw [hv]
      go_enter Tryz.func126, Tryz.ntmps126
      go_wp2
      go_ret
      exact ⟨rfl, rfl⟩
  · have hv : isHnd b = false := decide_eq_false fun hh => h0 hh.1
    rw [hv]
    go_enter Tryz.func126, Tryz.ntmps126
    go_wp2
    go_ret
    exact ⟨rfl, rfl⟩
theorem txn_copies (l : List Cpy) (v : Value) (w : World) (h : RL cpyC w v l) (hl : l.length ≤ 5864062014805) :
    Calls Tryz.prog 70 #[v] w fun e w' => e = .returned (.bool (copiesB l)) ∧ Below w.heap.size w w' := by
  obtain ⟨a, cap, rfl, _⟩ := h.form
  have hci := copies_iff l
  have hno := fun k hk hh => copies_bad (l := l) (k := k) hk hh
  have hB := fun b w => txn_block b w
  generalize copiesB l = cb at *
  replace h := hid h; replace hci := hid hci; replace hno := hid hno; replace hB := hid hB
  go_enter Tryz.func70, Tryz.ntmps70
  go_wp2
  go_loopw [3, 4, 7] (fun _ _ i wr => ∃ k : Nat, k ≤ l.length ∧ i = .int .i64 k ∧ Hid (∀ j, j < k → stepC l j) ∧ Below w.heap.size w wr) (fun _ _ i _ => l.length - (intOf i).toNat)
  case atStart => exact ⟨0, Nat.zero_le _, rfl, hid (fun j hj => absurd hj (Nat.not_lt_zero j)), b0 w⟩
  case round =>
    obtain ⟨k, hk, rfl, hall, nx⟩ := hrel
    by_cases hlt : k < l.length
    · obtain ⟨b1, o1, rfl, d0, d1⟩ := RL.at2 (fun x => .int .i64 x.block) (fun x => .string x.text) (fun _ => rfl) (h.out.below nx) hlt
      have hsk := hid (show isBlk l[k].block = true → l[k].text.size = 32 → (∀ (h : 0 < k), l[k - 1].block < l[k].block) → ∀ j, j < k + 1 → stepC l j from fun h1 h2 h3 j hj => by
        by_cases e : j = k
        · subst e; exact fun _ => ⟨h1, h2, h3⟩
        · exact hall.out j (by omega))
      have hnk := hid (show ¬ (isBlk l[k].block = true ∧ l[k].text.size = 32 ∧ (∀ (h : 0 < k), l[k - 1].block < l[k].block)) → cb = false from fun h => hno.out k hlt (fun hh => h (hh hlt)))
      have hBk := hB.out l[k].block
      by_cases hb : isBlk l[k].block = true
      · rw [hb] at hBk
        by_cases hs : l[k].text.size = 32
        · have hs2 : ((l[k].text.size : Int) != 32) = false := by rw [hs]; rfl
          rcases Nat.eq_zero_or_pos k with hk0 | hk0
          · subst hk0
            have hs3 := hid (hsk.out hb hs (fun h => absurd h (Nat.lt_irrefl 0)))
            simp only [Nat.zero_mul, Nat.add_zero] at d0 d1
            clear hsk hnk hs hb hall
            replace hBk := hid hBk
            generalize l[0] = x at *
            obtain ⟨xb, xt⟩ := x
            dsimp only at *
            have kx := Blk.new wr #[.int .i64 xb, .string xt] 92
            have x0 := kx.cell 0; have x1 := kx.cell 1
            simp only [Zga, Zgb, Zgc] at x0 x1
            go_wp2
            refine wp_region_below (by kernel_rfl) (by kernel_rfl) ?_
            repeat (go_big_quiet_step ((go_at_call 71; exact BW.call_same (hBk.out _))))
            refine wpQuiet_nil ?_
            intro _ hw'
            obtain ⟨⟨wq, hq⟩, rfl⟩ := hw'
            go_wp2
            go_roundw
            case rel => exact ⟨1, by omega, by go_num, hs3, (bal nx _).trans (hq.mono (by have := nx.size; simp; omega))⟩
            case measure => simp [intOf]; omega
          · obtain ⟨j, rfl⟩ : ∃ j, k = j + 1 := ⟨k - 1, by omega⟩
            have hlj : j < l.length := by omega
            obtain ⟨b2, off2, hbb, d2, d3⟩ := RL.at2 (fun x => .int .i64 x.block) (fun x => .string x.text) (fun _ => rfl) (h.out.below nx) hlj
            simp only [Option.some.injEq, Addr.mk.injEq] at hbb
            obtain ⟨rfl, rfl, _⟩ := hbb
            have e1 : j + 1 - 1 = j := by omega
            by_cases hlt2 : l[j].block < l[j + 1].block
            · have hs3 := hid (hsk.out hb hs (fun h => hlt2))
              clear hsk hnk hs hb hall
              replace hBk := hid hBk
              generalize l[j + 1] = x at *
              generalize l[j] = y at *
              obtain ⟨xb, xt⟩ := x
              obtain ⟨yb, yt⟩ := y
              dsimp only at *
              have kx := Blk.new wr #[.int .i64 xb, .string xt] 92
              have x0 := kx.cell 0; have x1 := kx.cell 1
              simp only [Zga, Zgb, Zgc] at x0 x1
              have lt1 := World.block_lt_of_cell? _ _ d2
              dsimp only at lt1
              go_wp2
              refine wp_region_below (by kernel_rfl) (by kernel_rfl) ?_
              repeat (go_big_quiet_step ((go_at_call 71; exact BW.call_same (hBk.out _))))
              refine wpQuiet_nil ?_
              intro _ hw'
              obtain ⟨⟨wq, hq⟩, rfl⟩ := hw'
              go_wp2
              go_roundw
              case rel => exact ⟨j + 1 + 1, by omega, by go_num, hs3, (bal nx _).trans (hq.mono (by have := nx.size; simp; omega))⟩
              case measure => simp [intOf]; omega
            · have hv := hnk.out (fun hh => hlt2 (hh.2.2 (by omega)))
              subst hv
              clear hsk hnk hs hb hall
              replace hBk := hid hBk
              generalize l[j + 1] = x at *
              generalize l[j] = y at *
              obtain ⟨xb, xt⟩ := x
              obtain ⟨yb, yt⟩ := y
              dsimp only at *
              have kx := Blk.new wr #[.int .i64 xb, .string xt] 92
              have x0 := kx.cell 0; have x1 := kx.cell 1
              simp only [Zga, Zgb, Zgc] at x0 x1
              have lt1 := World.block_lt_of_cell? _ _ d2
              dsimp only at lt1
              go_wp2
              refine wp_region_below (by kernel_rfl) (by kernel_rfl) ?_
              repeat (go_big_quiet_step ((go_at_call 71; exact BW.call_same (hBk.out _))))
              refine wpQuiet_nil ?_
              intro _ hw'
              obtain ⟨⟨wq, hq⟩, rfl⟩ := hw'
              go_wp2
              go_ret
              exact ⟨rfl, (bal nx _).trans (hq.mono (by have := nx.size; simp; omega))⟩
        · have hv := hnk.out (fun hh => hs hh.2.1)
          subst hv
          have hs2 : ((l[k].text.size : Int) != 32) = true := bne_iff_ne.2 (by omega)
          clear hsk hnk hs hb hall
          replace hBk := hid hBk
          generalize l[k] = x at *
          obtain ⟨xb, xt⟩ := x
          dsimp only at *
          have kx := Blk.new wr #[.int .i64 xb, .string xt] 92
          have x0 := kx.cell 0; have x1 := kx.cell 1
          simp only [Zga, Zgb, Zgc] at x0 x1
          go_wp2
          refine wp_region_below (by kernel_rfl) (by kernel_rfl) ?_
          repeat (go_big_quiet_step ((go_at_call 71; exact BW.call_same (hBk.out _))))
          refine wpQuiet_nil ?_
          intro _ hw'
          obtain ⟨⟨wq, hq⟩, rfl⟩ := hw'
          go_wp2
          go_ret
          exact ⟨rfl, (bal nx _).trans (hq.mono (by have := nx.size; simp; omega))⟩
      · have hv := hnk.out (fun hh => hb hh.1)
        subst hv
        rw [Bool.not_eq_true] at hb
        rw [hb] at hBk
        clear hsk hnk hb hall
        replace hBk := hid hBk
        generalize l[k] = x at *
        obtain ⟨xb, xt⟩ := x
        dsimp only at *
        have kx := Blk.new wr #[.int .i64 xb, .string xt] 92
        have x0 := kx.cell 0; have x1 := kx.cell 1
        simp only [Zga, Zgb, Zgc] at x0 x1
        go_wp2
        refine wp_region_below (by kernel_rfl) (by kernel_rfl) ?_
        repeat (go_big_quiet_step ((go_at_call 71; exact BW.call_same (hBk.out _))))
        refine wpQuiet_nil ?_
        intro _ hw'
        obtain ⟨⟨wq, hq⟩, rfl⟩ := hw'
        go_wp2
        go_ret
        exact ⟨rfl, (bal nx _).trans (hq.mono (by have := nx.size; simp; omega))⟩
    · have hv := hci.out.2 (fun j hj => hall.out j (by omega))
      subst hv
      clear hall
      go_wp2
      go_ret
      exact ⟨rfl, nx⟩
end Go.Proofs.YtjhmfljlclajnacGreatDoor
namespace Wb
open Go Go.RowKit
theorem apart_rev {t : Txn} {k : Nat} (hk : k < t.rev.length) (h : (!hasB t.mt t.rev[k] && !hasB t.dt t.rev[k]) = false) : apart t = false := by
  unfold apart
  rw [all_no (p := fun b => !hasB t.mt b && !hasB t.dt b) hk h]
  rfl
theorem apart_mt {t : Txn} {k : Nat} (hk : k < t.mt.length) (h : (!hasB t.dt t.mt[k].block) = false) : apart t = false := by
  unfold apart
  rw [all_no (p := fun c : Cpy => !hasB t.dt c.block) hk h, Bool.and_false]
theorem apart_yes {t : Txn} (h1 : ∀ k (hk : k < t.rev.length), (!hasB t.mt t.rev[k] && !hasB t.dt t.rev[k]) = true) (h2 : ∀ k (hk : k < t.mt.length), (!hasB t.dt t.mt[k].block) = true) : apart t = true := by
  unfold apart
  rw [Bool.and_eq_true, List.all_eq_true, List.all_eq_true]
  refine ⟨fun x hx => ?_, fun x hx => ?_⟩
  · obtain ⟨k, hk, rfl⟩ := List.mem_iff_getElem.1 hx
    exact h1 k hk
  · obtain ⟨k, hk, rfl⟩ := List.mem_iff_getElem.1 hx
    exact h2 k hk
end Wb
namespace Go.Proofs.YtjhmfljlclajnacGreatDoor
open Go.RowKit Wb
set_option maxRecDepth 100000
set_option maxHeartbeats 16000000
theorem idx3 (w : World) (o0 o1 o2 : Bool) (l0 l1 l2 : Int) :
    (Instr.index 38 (.agg #[.bool o0, .int .i64 l0, .bool o1, .int .i64 l1, .bool o2, .int .i64 l2]) (.int .i64 0)).run Tryz.prog w = .ok (.agg #[.bool o0, .int .i64 l0]) w ∧
    (Instr.index 38 (.agg #[.bool o0, .int .i64 l0, .bool o1, .int .i64 l1, .bool o2, .int .i64 l2]) (.int .i64 1)).run Tryz.prog w = .ok (.agg #[.bool o1, .int .i64 l1]) w ∧
    (Instr.index 38 (.agg #[.bool o0, .int .i64 l0, .bool o1, .int .i64 l1, .bool o2, .int .i64 l2]) (.int .i64 2)).run Tryz.prog w = .ok (.agg #[.bool o2, .int .i64 l2]) w :=
  ⟨by kernel_rfl, by kernel_rfl, by kernel_rfl⟩
theorem txn_Good (t : Txn) (v : Value) (w : World) (h : RTxn w v t) :
    Calls Tryz.prog 30 #[v] w fun e w' => e = .returned (.bool (goodT t)) ∧ Below w.heap.size w w' := by
  obtain ⟨vm, vd, vr, rfl, hm, hd, hr, n1, n2, n3⟩ := h
  obtain ⟨am, cm, rfl, _⟩ := hm.form
  obtain ⟨ad, cd, rfl, _⟩ := hd.form
  obtain ⟨ar, cr, rfl, _⟩ := hr.form
  have hng := fun hh => notGood' (t := t) hh
  have hyes := fun h1 h2 h3 h4 h5 h6 h7 h8 => (goodT_iff t).2 ⟨h1, h2, h3, h4, h5, h6, h7, h8⟩
  have hi3 := fun w => idx3 w t.h0.on t.h1.on t.h2.on t.h0.left t.h1.left t.h2.left
  have hCm := fun w' (nx : Below w.heap.size w w') => txn_copies t.mt _ w' (hm.below nx) n1
  have hCd := fun w' (nx : Below w.heap.size w w') => txn_copies t.dt _ w' (hd.below nx) n2
  have har := fun k hk hh => apart_rev (t := t) (k := k) hk hh
  have ham := fun k hk hh => apart_mt (t := t) (k := k) hk hh
  have hay := fun h1 h2 => apart_yes (t := t) h1 h2
  unfold txnV
  generalize goodT t = gT at *
  have k0 := Blk.new w #[.int .i64 t.seq, .slice am t.mt.length cm, .slice ad t.dt.length cd, .slice ar t.rev.length cr, .bool t.h0.on, .int .i64 t.h0.left, .bool t.h1.on, .int .i64 t.h1.left, .bool t.h2.on, .int .i64 t.h2.left] 40
  have nx := bal (b0 w) (.cells #[.int .i64 t.seq, .slice am t.mt.length cm, .slice ad t.dt.length cd, .slice ar t.rev.length cr, .bool t.h0.on, .int .i64 t.h0.left, .bool t.h1.on, .int .i64 t.h1.left, .bool t.h2.on, .int .i64 t.h2.left] 40)
  have e0 := k0.cell 0; have e1 := k0.cell 1; have e2 := k0.cell 2; have e3 := k0.cell 3; have e4 := k0.cell 4; have e5 := k0.cell 5; have e6 := k0.cell 6; have e7 := k0.cell 7; have e8 := k0.cell 8; have e9 := k0.cell 9; simp only [Zga, Zgb, Zgc] at e0 e1 e2 e3 e4 e5 e6 e7 e8 e9; have l0 := k0.lt
  replace hm := hid hm; replace hd := hid hd; replace hr := hid hr; replace hng := hid hng; replace hyes := hid hyes; replace hi3 := hid hi3; replace har := hid har; replace ham := hid ham; replace hay := hid hay
  have COPM := hid hCm; have COPD := hid hCd
  clear hCm hCd
  by_cases hs1 : t.seq < 1
  · have hv := hid (hng.out (.inl (decide_eq_false (by omega))))
    go_enter Tryz.func30, Tryz.ntmps30
    go_wp2
    go_ret
    exact ⟨ret_b hv.out.symm, nx⟩
  by_cases hs2 : 2147483647 < t.seq
  · have hv := hid (hng.out (.inl (decide_eq_false (by omega))))
    go_enter Tryz.func30, Tryz.ntmps30
    go_wp2
    go_ret
    exact ⟨ret_b hv.out.symm, nx⟩
  have hsq : seqOk t.seq = true := decide_eq_true (by omega)
  cases hcm : copiesB t.mt with
  | false =>
    have hv := hid (hng.out (.inr (.inl hcm)))
    have C1 := COPM.out _ nx
    rw [hcm] at C1
    replace C1 := hid C1
    clear hcm
    go_enter Tryz.func30, Tryz.ntmps30
    go_wp2_with (go_at_call_of 70 (Value.slice am t.mt.length cm); go_loud ((with_reducible refine C1.out.mono ?_); rintro e w1 ⟨rfl, hb1⟩; replace nx := bgo nx hb1))
    go_ret
    exact ⟨ret_b hv.out.symm, nx⟩
  | true =>
  have C1 := COPM.out _ nx
  rw [hcm] at C1
  cases hcd : copiesB t.dt with
  | false =>
    have hv := hid (hng.out (.inr (.inr (.inl hcd))))
    have C2 := fun w' nx => COPD.out w' nx
    rw [hcd] at C2
    replace C1 := hid C1; replace C2 := hid C2
    clear hcm hcd
    go_enter Tryz.func30, Tryz.ntmps30
    go_wp2_with (go_at_call_of 70 (Value.slice am t.mt.length cm); go_loud ((with_reducible refine C1.out.mono ?_); rintro e w1 ⟨rfl, hb1⟩; replace k0 := k0.step hb1; replace nx := bgo nx hb1; clear e0 e1 e2 e3 e4 e5 e6 e7 e8 e9 l0; have e0 := k0.cell 0; have e1 := k0.cell 1; have e2 := k0.cell 2; have e3 := k0.cell 3; have e4 := k0.cell 4; have e5 := k0.cell 5; have e6 := k0.cell 6; have e7 := k0.cell 7; have e8 := k0.cell 8; have e9 := k0.cell 9; simp only [Zga, Zgb, Zgc] at e0 e1 e2 e3 e4 e5 e6 e7 e8 e9; have l0 := k0.lt))
    go_wp2_with (go_at_call_of 70 (Value.slice ad t.dt.length cd); go_loud ((with_reducible refine (C2.out _ nx).mono ?_); rintro e w1 ⟨rfl, hb1⟩; replace nx := bgo nx hb1))
    go_ret
    exact ⟨ret_b hv.out.symm, nx⟩
  | true =>
  have C2 := fun w' nx => COPD.out w' nx
  rw [hcd] at C2
  replace C1 := hid C1; replace C2 := hid C2
  have hcm' := hid hcm; have hcd' := hid hcd
  have hcm : rise (blks t.mt) = true := by unfold copiesB at hcm; rw [Bool.and_eq_true] at hcm; exact hcm.1
  have hcd : rise (blks t.dt) = true := by unfold copiesB at hcd; rw [Bool.and_eq_true] at hcd; exact hcd.1
  replace hcm := hid hcm; replace hcd := hid hcd; replace hsq := hid hsq
  clear COPM COPD
  go_enter Tryz.func30, Tryz.ntmps30
  go_wp2_with (go_at_call_of 70 (Value.slice am t.mt.length cm); go_loud ((with_reducible refine C1.out.mono ?_); rintro e w1 ⟨rfl, hb1⟩; replace k0 := k0.step hb1; replace nx := bgo nx hb1; clear e0 e1 e2 e3 e4 e5 e6 e7 e8 e9 l0; have e0 := k0.cell 0; have e1 := k0.cell 1; have e2 := k0.cell 2; have e3 := k0.cell 3; have e4 := k0.cell 4; have e5 := k0.cell 5; have e6 := k0.cell 6; have e7 := k0.cell 7; have e8 := k0.cell 8; have e9 := k0.cell 9; simp only [Zga, Zgb, Zgc] at e0 e1 e2 e3 e4 e5 e6 e7 e8 e9; have l0 := k0.lt))
  go_wp2_with (go_at_call_of 70 (Value.slice ad t.dt.length cd); go_loud ((with_reducible refine (C2.out _ nx).mono ?_); rintro e w2 ⟨rfl, hb2⟩; replace k0 := k0.step hb2; replace nx := bgo nx hb2; clear e0 e1 e2 e3 e4 e5 e6 e7 e8 e9 l0; have e0 := k0.cell 0; have e1 := k0.cell 1; have e2 := k0.cell 2; have e3 := k0.cell 3; have e4 := k0.cell 4; have e5 := k0.cell 5; have e6 := k0.cell 6; have e7 := k0.cell 7; have e8 := k0.cell 8; have e9 := k0.cell 9; simp only [Zga, Zgb, Zgc] at e0 e1 e2 e3 e4 e5 e6 e7 e8 e9; have l0 := k0.lt))
  clear C1 C2 hb1 hb2
  go_loopw [3, 4, 32] (fun _ _ i wr => ∃ k : Nat, k ≤ t.rev.length ∧ i = .int .i64 k ∧ Hid (riseTo t.rev k) ∧ Hid (∀ j, j < k → ∀ (hj : j < t.rev.length), (!hasB t.mt t.rev[j] && !hasB t.dt t.rev[j]) = true) ∧ Blk wr w.heap.size #[.int .i64 t.seq, .slice am t.mt.length cm, .slice ad t.dt.length cd, .slice ar t.rev.length cr, .bool t.h0.on, .int .i64 t.h0.left, .bool t.h1.on, .int .i64 t.h1.left, .bool t.h2.on, .int .i64 t.h2.left] 40 ∧ Below w.heap.size w wr) (fun _ _ i _ => t.rev.length - (intOf i).toNat)
  case atStart => exact ⟨0, Nat.zero_le _, rfl, hid (fun j hj => absurd hj (Nat.not_lt_zero j)), hid (fun j hj => absurd hj (Nat.not_lt_zero j)), k0, nx⟩
  case round =>
    clear k0 nx e0 e1 e2 e3 e4 e5 e6 e7 e8 e9 l0
    obtain ⟨k, hk, rfl, hri, hap, k0, nx⟩ := hrel
    have e0 := k0.cell 0; have e1 := k0.cell 1; have e2 := k0.cell 2; have e3 := k0.cell 3; have e4 := k0.cell 4; have e5 := k0.cell 5; have e6 := k0.cell 6; have e7 := k0.cell 7; have e8 := k0.cell 8; have e9 := k0.cell 9; simp only [Zga, Zgb, Zgc] at e0 e1 e2 e3 e4 e5 e6 e7 e8 e9; have l0 := k0.lt
    by_cases hlt : k < t.rev.length
    · obtain ⟨b1, o1, rfl, d0⟩ := RL.at1 (fun x => .int .i64 x) (fun _ => rfl) (hr.out.below nx) hlt
      have hgd : t.rev.getD k 0 = t.rev[k] := by simp [hlt]
      have hno := hid (show ¬ riseAt t.rev k → gT = false from fun hh => hng.out (.inr (.inr (.inr (.inl (rise_no hlt hh))))))
      have hnA := hid (show (!hasB t.mt t.rev[k] && !hasB t.dt t.rev[k]) = false → gT = false from fun hh => hng.out (.inr (.inr (.inr (.inr (.inl (har.out k hlt hh)))))))
      have hyA := hid (show (!hasB t.mt t.rev[k] && !hasB t.dt t.rev[k]) = true → ∀ j, j < k + 1 → ∀ (hj : j < t.rev.length), (!hasB t.mt t.rev[j] && !hasB t.dt t.rev[j]) = true from fun hh j hj hj2 => by
        by_cases e : j = k
        · subst e; exact hh
        · exact hap.out j (by omega) hj2)
      have hBk := txn_block t.rev[k]
      by_cases hb : isBlk t.rev[k] = true
      · have hb' := of_decide_eq_true hb
        have hBk := fun w => hBk w
        rw [hb] at hBk
        replace hBk := hid hBk
        rcases Nat.eq_zero_or_pos k with hk0 | hk0
        · subst hk0
          have hr1 := hid (riseTo_succ hri.out (show riseAt t.rev 0 from by unfold riseAt; rw [hgd]; exact ⟨hb'.1, hb'.2, fun h => absurd h (Nat.lt_irrefl 0)⟩))
          simp only [Nat.add_zero] at d0
          clear hno hgd hb hb' hri hap
          generalize t.rev[0] = x at *
          have hMb := hid (fun w' (nx : Below w.heap.size w w') => txn_has t.mt x _ w' hcm.out (hm.out.below nx) n1)
          have hDb := hid (fun w' (nx : Below w.heap.size w w') => txn_has t.dt x _ w' hcd.out (hd.out.below nx) n2)
          by_cases hh1 : hasB t.mt x = true
          · have hv := hid (hnA.out (by rw [hh1]; rfl))
            have hMb := hid (fun w' nx => by have := hMb.out w' nx; rwa [hh1] at this)
            clear hh1 hDb hnA hyA
            go_wp2_with (go_at_call 71; go_loud ((with_reducible refine (hBk.out _).mono ?_); rintro e w1 ⟨rfl, rfl⟩))
            go_wp2_with (go_at_call_of 72 (Value.slice am t.mt.length cm); go_loud ((with_reducible refine (hMb.out _ nx).mono ?_); rintro e w2 ⟨rfl, hb2⟩; replace k0 := k0.step hb2; replace nx := bgo nx hb2; clear e0 e1 e2 e3 e4 e5 e6 e7 e8 e9 l0; have e0 := k0.cell 0; have e1 := k0.cell 1; have e2 := k0.cell 2; have e3 := k0.cell 3; have e4 := k0.cell 4; have e5 := k0.cell 5; have e6 := k0.cell 6; have e7 := k0.cell 7; have e8 := k0.cell 8; have e9 := k0.cell 9; simp only [Zga, Zgb, Zgc] at e0 e1 e2 e3 e4 e5 e6 e7 e8 e9; have l0 := k0.lt))
            go_ret
            exact ⟨ret_b hv.out.symm, nx⟩
          · rw [Bool.not_eq_true] at hh1
            have hMb := hid (fun w' nx => by have := hMb.out w' nx; rwa [hh1] at this)
            by_cases hh2 : hasB t.dt x = true
            · have hv := hid (hnA.out (by rw [hh1, hh2]; rfl))
              have hDb := hid (fun w' nx => by have := hDb.out w' nx; rwa [hh2] at this)
              clear hh1 hh2 hnA hyA
              go_wp2_with (go_at_call 71; go_loud ((with_reducible refine (hBk.out _).mono ?_); rintro e w1 ⟨rfl, rfl⟩))
              go_wp2_with (go_at_call_of 72 (Value.slice am t.mt.length cm); go_loud ((with_reducible refine (hMb.out _ nx).mono ?_); rintro e w2 ⟨rfl, hb2⟩; replace k0 := k0.step hb2; replace nx := bgo nx hb2; clear e0 e1 e2 e3 e4 e5 e6 e7 e8 e9 l0; have e0 := k0.cell 0; have e1 := k0.cell 1; have e2 := k0.cell 2; have e3 := k0.cell 3; have e4 := k0.cell 4; have e5 := k0.cell 5; have e6 := k0.cell 6; have e7 := k0.cell 7; have e8 := k0.cell 8; have e9 := k0.cell 9; simp only [Zga, Zgb, Zgc] at e0 e1 e2 e3 e4 e5 e6 e7 e8 e9; have l0 := k0.lt))
              go_wp2_with (go_at_call_of 72 (Value.slice ad t.dt.length cd); go_loud ((with_reducible refine (hDb.out _ nx).mono ?_); rintro e w2 ⟨rfl, hb2⟩; replace k0 := k0.step hb2; replace nx := bgo nx hb2; clear e0 e1 e2 e3 e4 e5 e6 e7 e8 e9 l0; have e0 := k0.cell 0; have e1 := k0.cell 1; have e2 := k0.cell 2; have e3 := k0.cell 3; have e4 := k0.cell 4; have e5 := k0.cell 5; have e6 := k0.cell 6; have e7 := k0.cell 7; have e8 := k0.cell 8; have e9 := k0.cell 9; simp only [Zga, Zgb, Zgc] at e0 e1 e2 e3 e4 e5 e6 e7 e8 e9; have l0 := k0.lt))
              go_ret
              exact ⟨ret_b hv.out.symm, nx⟩
            · rw [Bool.not_eq_true] at hh2
              have hDb := hid (fun w' nx => by have := hDb.out w' nx; rwa [hh2] at this)
              have hy := hid (hyA.out (by rw [hh1, hh2]; rfl))
              clear hh1 hh2 hnA hyA
              go_wp2_with (go_at_call 71; go_loud ((with_reducible refine (hBk.out _).mono ?_); rintro e w1 ⟨rfl, rfl⟩))
              go_wp2_with (go_at_call_of 72 (Value.slice am t.mt.length cm); go_loud ((with_reducible refine (hMb.out _ nx).mono ?_); rintro e w2 ⟨rfl, hb2⟩; replace k0 := k0.step hb2; replace nx := bgo nx hb2; clear e0 e1 e2 e3 e4 e5 e6 e7 e8 e9 l0; have e0 := k0.cell 0; have e1 := k0.cell 1; have e2 := k0.cell 2; have e3 := k0.cell 3; have e4 := k0.cell 4; have e5 := k0.cell 5; have e6 := k0.cell 6; have e7 := k0.cell 7; have e8 := k0.cell 8; have e9 := k0.cell 9; simp only [Zga, Zgb, Zgc] at e0 e1 e2 e3 e4 e5 e6 e7 e8 e9; have l0 := k0.lt))
              go_wp2_with (go_at_call_of 72 (Value.slice ad t.dt.length cd); go_loud ((with_reducible refine (hDb.out _ nx).mono ?_); rintro e w2 ⟨rfl, hb2⟩; replace k0 := k0.step hb2; replace nx := bgo nx hb2; clear e0 e1 e2 e3 e4 e5 e6 e7 e8 e9 l0; have e0 := k0.cell 0; have e1 := k0.cell 1; have e2 := k0.cell 2; have e3 := k0.cell 3; have e4 := k0.cell 4; have e5 := k0.cell 5; have e6 := k0.cell 6; have e7 := k0.cell 7; have e8 := k0.cell 8; have e9 := k0.cell 9; simp only [Zga, Zgb, Zgc] at e0 e1 e2 e3 e4 e5 e6 e7 e8 e9; have l0 := k0.lt))
              go_roundw
              case rel => exact ⟨0 + 1, by omega, by go_num, hr1, hy, k0, nx⟩
              case measure => simp [intOf]; omega
        · obtain ⟨j, rfl⟩ : ∃ j, k = j + 1 := ⟨k - 1, by omega⟩
          have hlj : j < t.rev.length := by omega
          obtain ⟨b2, off2, hbb, d2⟩ := RL.at1 (fun x => .int .i64 x) (fun _ => rfl) (hr.out.below nx) hlj
          simp only [Option.some.injEq, Addr.mk.injEq] at hbb
          obtain ⟨rfl, rfl, _⟩ := hbb
          have hgj : t.rev.getD j 0 = t.rev[j] := by simp [hlj]
          have hiff : riseAt t.rev (j + 1) ↔ t.rev[j] < t.rev[j + 1] := by
            unfold riseAt
            rw [hgd, Nat.add_sub_cancel, hgj]
            exact ⟨fun h => h.2.2 (by omega), fun h => ⟨hb'.1, hb'.2, fun _ => h⟩⟩
          by_cases hlt2 : t.rev[j] < t.rev[j + 1]
          · have hr1 := hid (riseTo_succ hri.out (hiff.2 hlt2))
            clear hno hgd hgj hb hb' hri hap hiff
            generalize t.rev[j + 1] = x at *
            generalize t.rev[j] = y at *
            have hMb := hid (fun w' (nx : Below w.heap.size w w') => txn_has t.mt x _ w' hcm.out (hm.out.below nx) n1)
            have hDb := hid (fun w' (nx : Below w.heap.size w w') => txn_has t.dt x _ w' hcd.out (hd.out.below nx) n2)
            by_cases hh1 : hasB t.mt x = true
            · have hv := hid (hnA.out (by rw [hh1]; rfl))
              have hMb := hid (fun w' nx => by have := hMb.out w' nx; rwa [hh1] at this)
              clear hh1 hDb hnA hyA
              go_wp2_with (go_at_call 71; go_loud ((with_reducible refine (hBk.out _).mono ?_); rintro e w1 ⟨rfl, rfl⟩))
              go_wp2_with (go_at_call_of 72 (Value.slice am t.mt.length cm); go_loud ((with_reducible refine (hMb.out _ nx).mono ?_); rintro e w2 ⟨rfl, hb2⟩; replace k0 := k0.step hb2; replace nx := bgo nx hb2; clear e0 e1 e2 e3 e4 e5 e6 e7 e8 e9 l0; have e0 := k0.cell 0; have e1 := k0.cell 1; have e2 := k0.cell 2; have e3 := k0.cell 3; have e4 := k0.cell 4; have e5 := k0.cell 5; have e6 := k0.cell 6; have e7 := k0.cell 7; have e8 := k0.cell 8; have e9 := k0.cell 9; simp only [Zga, Zgb, Zgc] at e0 e1 e2 e3 e4 e5 e6 e7 e8 e9; have l0 := k0.lt))
              go_ret
              exact ⟨ret_b hv.out.symm, nx⟩
            · rw [Bool.not_eq_true] at hh1
              have hMb := hid (fun w' nx => by have := hMb.out w' nx; rwa [hh1] at this)
              by_cases hh2 : hasB t.dt x = true
              · have hv := hid (hnA.out (by rw [hh1, hh2]; rfl))
                have hDb := hid (fun w' nx => by have := hDb.out w' nx; rwa [hh2] at this)
                clear hh1 hh2 hnA hyA
                go_wp2_with (go_at_call 71; go_loud ((with_reducible refine (hBk.out _).mono ?_); rintro e w1 ⟨rfl, rfl⟩))
                go_wp2_with (go_at_call_of 72 (Value.slice am t.mt.length cm); go_loud ((with_reducible refine (hMb.out _ nx).mono ?_); rintro e w2 ⟨rfl, hb2⟩; replace k0 := k0.step hb2; replace nx := bgo nx hb2; clear e0 e1 e2 e3 e4 e5 e6 e7 e8 e9 l0; have e0 := k0.cell 0; have e1 := k0.cell 1; have e2 := k0.cell 2; have e3 := k0.cell 3; have e4 := k0.cell 4; have e5 := k0.cell 5; have e6 := k0.cell 6; have e7 := k0.cell 7; have e8 := k0.cell 8; have e9 := k0.cell 9; simp only [Zga, Zgb, Zgc] at e0 e1 e2 e3 e4 e5 e6 e7 e8 e9; have l0 := k0.lt))
                go_wp2_with (go_at_call_of 72 (Value.slice ad t.dt.length cd); go_loud ((with_reducible refine (hDb.out _ nx).mono ?_); rintro e w2 ⟨rfl, hb2⟩; replace k0 := k0.step hb2; replace nx := bgo nx hb2; clear e0 e1 e2 e3 e4 e5 e6 e7 e8 e9 l0; have e0 := k0.cell 0; have e1 := k0.cell 1; have e2 := k0.cell 2; have e3 := k0.cell 3; have e4 := k0.cell 4; have e5 := k0.cell 5; have e6 := k0.cell 6; have e7 := k0.cell 7; have e8 := k0.cell 8; have e9 := k0.cell 9; simp only [Zga, Zgb, Zgc] at e0 e1 e2 e3 e4 e5 e6 e7 e8 e9; have l0 := k0.lt))
                go_ret
                exact ⟨ret_b hv.out.symm, nx⟩
              · rw [Bool.not_eq_true] at hh2
                have hDb := hid (fun w' nx => by have := hDb.out w' nx; rwa [hh2] at this)
                have hy := hid (hyA.out (by rw [hh1, hh2]; rfl))
                clear hh1 hh2 hnA hyA
                go_wp2_with (go_at_call 71; go_loud ((with_reducible refine (hBk.out _).mono ?_); rintro e w1 ⟨rfl, rfl⟩))
                go_wp2_with (go_at_call_of 72 (Value.slice am t.mt.length cm); go_loud ((with_reducible refine (hMb.out _ nx).mono ?_); rintro e w2 ⟨rfl, hb2⟩; replace k0 := k0.step hb2; replace nx := bgo nx hb2; clear e0 e1 e2 e3 e4 e5 e6 e7 e8 e9 l0; have e0 := k0.cell 0; have e1 := k0.cell 1; have e2 := k0.cell 2; have e3 := k0.cell 3; have e4 := k0.cell 4; have e5 := k0.cell 5; have e6 := k0.cell 6; have e7 := k0.cell 7; have e8 := k0.cell 8; have e9 := k0.cell 9; simp only [Zga, Zgb, Zgc] at e0 e1 e2 e3 e4 e5 e6 e7 e8 e9; have l0 := k0.lt))
                go_wp2_with (go_at_call_of 72 (Value.slice ad t.dt.length cd); go_loud ((with_reducible refine (hDb.out _ nx).mono ?_); rintro e w2 ⟨rfl, hb2⟩; replace k0 := k0.step hb2; replace nx := bgo nx hb2; clear e0 e1 e2 e3 e4 e5 e6 e7 e8 e9 l0; have e0 := k0.cell 0; have e1 := k0.cell 1; have e2 := k0.cell 2; have e3 := k0.cell 3; have e4 := k0.cell 4; have e5 := k0.cell 5; have e6 := k0.cell 6; have e7 := k0.cell 7; have e8 := k0.cell 8; have e9 := k0.cell 9; simp only [Zga, Zgb, Zgc] at e0 e1 e2 e3 e4 e5 e6 e7 e8 e9; have l0 := k0.lt))
                go_roundw
                case rel => exact ⟨j + 1 + 1, by omega, by go_num, hr1, hy, k0, nx⟩
                case measure => simp [intOf]; omega
          · have hv := hid (hno.out (fun hh => hlt2 (hiff.1 hh)))
            clear hno hgd hgj hb hb' hri hap hiff hnA hyA
            generalize t.rev[j + 1] = x at *
            generalize t.rev[j] = y at *
            go_wp2_with (go_at_call 71; go_loud ((with_reducible refine (hBk.out _).mono ?_); rintro e w1 ⟨rfl, rfl⟩))
            go_ret
            exact ⟨ret_b hv.out.symm, nx⟩
      · have hv := hid (hno.out (fun hh => hb (by
          unfold riseAt at hh
          rw [hgd] at hh
          exact decide_eq_true ⟨hh.1, hh.2.1⟩)))
        rw [Bool.not_eq_true] at hb
        have hBk := fun w => hBk w
        rw [hb] at hBk
        replace hBk := hid hBk
        clear hno hgd hb hri hap hnA hyA
        generalize t.rev[k] = x at *
        go_wp2_with (go_at_call 71; go_loud ((with_reducible refine (hBk.out _).mono ?_); rintro e w1 ⟨rfl, rfl⟩))
        go_ret
        exact ⟨ret_b hv.out.symm, nx⟩
    · obtain rfl : k = t.rev.length := by omega
      have hrise := hid ((rise_iff t.rev).2 hri.out)
      have hapr := hid (show ∀ j (hj : j < t.rev.length), (!hasB t.mt t.rev[j] && !hasB t.dt t.rev[j]) = true from fun j hj => hap.out j hj hj)
      clear hri hap
      go_wp2
      go_loopw [6, 70] (fun _ i wr => ∃ k : Nat, k ≤ t.mt.length ∧ i = .int .i64 k ∧ Hid (∀ j, j < k → ∀ (hj : j < t.mt.length), (!hasB t.dt t.mt[j].block) = true) ∧ Blk wr w.heap.size #[.int .i64 t.seq, .slice am t.mt.length cm, .slice ad t.dt.length cd, .slice ar t.rev.length cr, .bool t.h0.on, .int .i64 t.h0.left, .bool t.h1.on, .int .i64 t.h1.left, .bool t.h2.on, .int .i64 t.h2.left] 40 ∧ Below w.heap.size w wr) (fun _ i _ => t.mt.length - (intOf i).toNat)
      case atStart => exact ⟨0, Nat.zero_le _, rfl, hid (fun j hj => absurd hj (Nat.not_lt_zero j)), k0, nx⟩
      case round =>
        clear k0 nx e0 e1 e2 e3 e4 e5 e6 e7 e8 e9 l0
        obtain ⟨k, hk, rfl, hap, k0, nx⟩ := hrel
        have e0 := k0.cell 0; have e1 := k0.cell 1; have e2 := k0.cell 2; have e3 := k0.cell 3; have e4 := k0.cell 4; have e5 := k0.cell 5; have e6 := k0.cell 6; have e7 := k0.cell 7; have e8 := k0.cell 8; have e9 := k0.cell 9; simp only [Zga, Zgb, Zgc] at e0 e1 e2 e3 e4 e5 e6 e7 e8 e9; have l0 := k0.lt
        by_cases hlt : k < t.mt.length
        · obtain ⟨b1, o1, rfl, d0, d1⟩ := RL.at2 (fun x => .int .i64 x.block) (fun x => .string x.text) (fun _ => rfl) (hm.out.below nx) hlt
          have hnA := hid (show (!hasB t.dt t.mt[k].block) = false → gT = false from fun hh => hng.out (.inr (.inr (.inr (.inr (.inl (ham.out k hlt hh)))))))
          have hyA := hid (show (!hasB t.dt t.mt[k].block) = true → ∀ j, j < k + 1 → ∀ (hj : j < t.mt.length), (!hasB t.dt t.mt[j].block) = true from fun hh j hj hj2 => by
            by_cases e : j = k
            · subst e; exact hh
            · exact hap.out j (by omega) hj2)
          generalize t.mt[k] = c at *
          obtain ⟨x, ct⟩ := c
          dsimp only at *
          have hDb := hid (fun w' (nx : Below w.heap.size w w') => txn_has t.dt x _ w' hcd.out (hd.out.below nx) n2)
          replace k0 := k0.alloc (.cells #[.int .i64 x, .string ct] 92)
          have nx' := nx
          replace nx := bal nx (.cells #[.int .i64 x, .string ct] 92)
          clear e0 e1 e2 e3 e4 e5 e6 e7 e8 e9 l0; have e0 := k0.cell 0; have e1 := k0.cell 1; have e2 := k0.cell 2; have e3 := k0.cell 3; have e4 := k0.cell 4; have e5 := k0.cell 5; have e6 := k0.cell 6; have e7 := k0.cell 7; have e8 := k0.cell 8; have e9 := k0.cell 9; simp only [Zga, Zgb, Zgc] at e0 e1 e2 e3 e4 e5 e6 e7 e8 e9; have l0 := k0.lt
          have kx := Blk.new wr #[.int .i64 x, .string ct] 92
          have x0 := kx.cell 0
          simp only [Zga, Zgb, Zgc] at x0
          by_cases hh2 : hasB t.dt x = true
          · have hv := hid (hnA.out (by rw [hh2]; rfl))
            have hDb := hid (fun w' nx => by have := hDb.out w' nx; rwa [hh2] at this)
            clear hh2 hnA hyA hap
            go_wp2_with (go_at_call_of 72 (Value.slice ad t.dt.length cd); go_loud ((with_reducible refine (hDb.out _ nx).mono ?_); rintro e w2 ⟨rfl, hb2⟩; replace k0 := k0.step hb2; replace nx := bgo nx hb2; clear e0 e1 e2 e3 e4 e5 e6 e7 e8 e9 l0; have e0 := k0.cell 0; have e1 := k0.cell 1; have e2 := k0.cell 2; have e3 := k0.cell 3; have e4 := k0.cell 4; have e5 := k0.cell 5; have e6 := k0.cell 6; have e7 := k0.cell 7; have e8 := k0.cell 8; have e9 := k0.cell 9; simp only [Zga, Zgb, Zgc] at e0 e1 e2 e3 e4 e5 e6 e7 e8 e9; have l0 := k0.lt))
            go_ret
            exact ⟨ret_b hv.out.symm, nx⟩
          · rw [Bool.not_eq_true] at hh2
            have hDb := hid (fun w' nx => by have := hDb.out w' nx; rwa [hh2] at this)
            have hy := hid (hyA.out (by rw [hh2]; rfl))
            clear hh2 hnA hyA hap
            go_wp2_with (go_at_call_of 72 (Value.slice ad t.dt.length cd); go_loud ((with_reducible refine (hDb.out _ nx).mono ?_); rintro e w2 ⟨rfl, hb2⟩; replace k0 := k0.step hb2; replace nx := bgo nx hb2; clear e0 e1 e2 e3 e4 e5 e6 e7 e8 e9 l0; have e0 := k0.cell 0; have e1 := k0.cell 1; have e2 := k0.cell 2; have e3 := k0.cell 3; have e4 := k0.cell 4; have e5 := k0.cell 5; have e6 := k0.cell 6; have e7 := k0.cell 7; have e8 := k0.cell 8; have e9 := k0.cell 9; simp only [Zga, Zgb, Zgc] at e0 e1 e2 e3 e4 e5 e6 e7 e8 e9; have l0 := k0.lt))
            go_roundw
            case rel => first | exact ⟨k + 1, by omega, by go_num, hy, k0, nx⟩ | ((repeat apply Exists.intro); refine ⟨⟨k + 1, by omega, ?_, hy, k0, nx⟩, rfl⟩; go_num)
            case measure => simp [intOf]; omega
        · obtain rfl : k = t.mt.length := by omega
          have hapm := hid (hay.out hapr.out (fun j hj => hap.out j hj hj))
          clear hap hapr
          go_wp2
          go_loopw [8, 82] (fun _ i wr => ∃ k : Nat, k ≤ 3 ∧ i = .int .i64 k ∧ Hid (∀ j, j < k → (if j = 0 then hOk t.h0 else if j = 1 then hOk t.h1 else hOk t.h2) = true) ∧ Blk wr w.heap.size #[.int .i64 t.seq, .slice am t.mt.length cm, .slice ad t.dt.length cd, .slice ar t.rev.length cr, .bool t.h0.on, .int .i64 t.h0.left, .bool t.h1.on, .int .i64 t.h1.left, .bool t.h2.on, .int .i64 t.h2.left] 40 ∧ Below w.heap.size w wr) (fun _ i _ => 3 - (intOf i).toNat)
          case atStart => exact ⟨0, by decide, rfl, hid (fun j hj => absurd hj (Nat.not_lt_zero j)), k0, nx⟩
          case round =>
            clear k0 nx e0 e1 e2 e3 e4 e5 e6 e7 e8 e9 l0
            obtain ⟨k, hk, rfl, hall, k0, nx⟩ := hrel
            have l0 := k0.lt
            by_cases hlt : k < 3
            · obtain (rfl | rfl | rfl) : k = 0 ∨ k = 1 ∨ k = 2 := by omega
              · have hi := hi3.out wr
                replace hi := hi.1
                have hof := hOk_iff' t.h0
                have hnh := fun hh => hng.out (.inr (.inr (.inr (.inr (.inr (.inl hh))))))
                generalize t.h0.on = o at *
                generalize hle : t.h0.left = lf at *
                replace hnh := hid hnh; replace hle := hid hle
                by_cases hoo : hOk t.h0 = true
                · obtain ⟨a1, a2, a3⟩ := hof.1 hoo
                  have hoo2 := hid hoo
                  have hall2 := hid (show ∀ j, j < 0 + 1 → (if j = 0 then hOk t.h0 else if j = 1 then hOk t.h1 else hOk t.h2) = true from by
                    intro j hj
                    by_cases e : j = 0
                    · subst e; exact hoo2.out
                    · exact hall.out j (by omega))
                  clear hof hoo
                  by_cases hz : lf = 0
                  · subst hz
                    cases o
                    · go_wp2
                      go_roundw
                      case rel => first | exact ⟨0 + 1, by decide, rfl, hall2, k0.alloc _, bal nx _⟩ | ((repeat apply Exists.intro); exact ⟨⟨0 + 1, by decide, rfl, hall2, k0.alloc _, bal nx _⟩, rfl⟩)
                      case measure => simp [intOf]
                    · go_wp2
                      go_roundw
                      case rel => first | exact ⟨0 + 1, by decide, rfl, hall2, k0.alloc _, bal nx _⟩ | ((repeat apply Exists.intro); exact ⟨⟨0 + 1, by decide, rfl, hall2, k0.alloc _, bal nx _⟩, rfl⟩)
                      case measure => simp [intOf]
                  · have ho : o = true := a3.resolve_right hz
                    have hz2 : 0 < lf := by omega
                    subst ho
                    clear hz a3
                    go_wp2
                    go_roundw
                    case rel => first | exact ⟨0 + 1, by decide, rfl, hall2, k0.alloc _, bal nx _⟩ | ((repeat apply Exists.intro); exact ⟨⟨0 + 1, by decide, rfl, hall2, k0.alloc _, bal nx _⟩, rfl⟩)
                    case measure => simp [intOf]
                · replace hoo : hOk t.h0 = false := by simpa using hoo
                  have hgf := hid (hnh.out hoo)
                  have hof2 : ¬ (0 ≤ lf ∧ lf ≤ 24 ∧ (o = true ∨ lf = 0)) := fun h => by rw [hof.2 h] at hoo; cases hoo
                  clear hof hoo
                  by_cases q1 : lf < 0
                  · clear hof2
                    go_wp2
                    go_ret
                    exact ⟨ret_b hgf.out.symm, bal nx _⟩
                  · by_cases q2 : 24 < lf
                    · clear hof2
                      go_wp2
                      go_ret
                      exact ⟨ret_b hgf.out.symm, bal nx _⟩
                    · have q3 : (lf != 0) = true := bne_iff_ne.2 (fun hz => hof2 ⟨by omega, by omega, .inr hz⟩)
                      have q4 : o = false := by
                        cases o
                        · rfl
                        · exact absurd ⟨by omega, by omega, .inl rfl⟩ hof2
                      subst q4
                      clear hof2
                      go_wp2
                      go_ret
                      exact ⟨ret_b hgf.out.symm, bal nx _⟩
              · have hi := hi3.out wr
                replace hi := hi.2.1
                have hof := hOk_iff' t.h1
                have hnh := fun hh => hng.out (.inr (.inr (.inr (.inr (.inr (.inr (.inl hh)))))))
                generalize t.h1.on = o at *
                generalize hle : t.h1.left = lf at *
                replace hnh := hid hnh; replace hle := hid hle
                by_cases hoo : hOk t.h1 = true
                · obtain ⟨a1, a2, a3⟩ := hof.1 hoo
                  have hoo2 := hid hoo
                  have hall2 := hid (show ∀ j, j < 1 + 1 → (if j = 0 then hOk t.h0 else if j = 1 then hOk t.h1 else hOk t.h2) = true from by
                    intro j hj
                    by_cases e : j = 1
                    · subst e; exact hoo2.out
                    · exact hall.out j (by omega))
                  clear hof hoo
                  by_cases hz : lf = 0
                  · subst hz
                    cases o
                    · go_wp2
                      go_roundw
                      case rel => first | exact ⟨1 + 1, by decide, rfl, hall2, k0.alloc _, bal nx _⟩ | ((repeat apply Exists.intro); exact ⟨⟨1 + 1, by decide, rfl, hall2, k0.alloc _, bal nx _⟩, rfl⟩)
                      case measure => simp [intOf]
                    · go_wp2
                      go_roundw
                      case rel => first | exact ⟨1 + 1, by decide, rfl, hall2, k0.alloc _, bal nx _⟩ | ((repeat apply Exists.intro); exact ⟨⟨1 + 1, by decide, rfl, hall2, k0.alloc _, bal nx _⟩, rfl⟩)
                      case measure => simp [intOf]
                  · have ho : o = true := a3.resolve_right hz
                    have hz2 : 0 < lf := by omega
                    subst ho
                    clear hz a3
                    go_wp2
                    go_roundw
                    case rel => first | exact ⟨1 + 1, by decide, rfl, hall2, k0.alloc _, bal nx _⟩ | ((repeat apply Exists.intro); exact ⟨⟨1 + 1, by decide, rfl, hall2, k0.alloc _, bal nx _⟩, rfl⟩)
                    case measure => simp [intOf]
                · replace hoo : hOk t.h1 = false := by simpa using hoo
                  have hgf := hid (hnh.out hoo)
                  have hof2 : ¬ (0 ≤ lf ∧ lf ≤ 24 ∧ (o = true ∨ lf = 0)) := fun h => by rw [hof.2 h] at hoo; cases hoo
                  clear hof hoo
                  by_cases q1 : lf < 0
                  · clear hof2
                    go_wp2
                    go_ret
                    exact ⟨ret_b hgf.out.symm, bal nx _⟩
                  · by_cases q2 : 24 < lf
                    · clear hof2
                      go_wp2
                      go_ret
                      exact ⟨ret_b hgf.out.symm, bal nx _⟩
                    · have q3 : (lf != 0) = true := bne_iff_ne.2 (fun hz => hof2 ⟨by omega, by omega, .inr hz⟩)
                      have q4 : o = false := by
                        cases o
                        · rfl
                        · exact absurd ⟨by omega, by omega, .inl rfl⟩ hof2
                      subst q4
                      clear hof2
                      go_wp2
                      go_ret
                      exact ⟨ret_b hgf.out.symm, bal nx _⟩
              · have hi := hi3.out wr
                replace hi := hi.2.2
                have hof := hOk_iff' t.h2
                have hnh := fun hh => hng.out (.inr (.inr (.inr (.inr (.inr (.inr (.inr hh)))))))
                generalize t.h2.on = o at *
                generalize hle : t.h2.left = lf at *
                replace hnh := hid hnh; replace hle := hid hle
                by_cases hoo : hOk t.h2 = true
                · obtain ⟨a1, a2, a3⟩ := hof.1 hoo
                  have hoo2 := hid hoo
                  have hall2 := hid (show ∀ j, j < 2 + 1 → (if j = 0 then hOk t.h0 else if j = 1 then hOk t.h1 else hOk t.h2) = true from by
                    intro j hj
                    by_cases e : j = 2
                    · subst e; exact hoo2.out
                    · exact hall.out j (by omega))
                  clear hof hoo
                  by_cases hz : lf = 0
                  · subst hz
                    cases o
                    · go_wp2
                      go_roundw
                      case rel => first | exact ⟨2 + 1, by decide, rfl, hall2, k0.alloc _, bal nx _⟩ | ((repeat apply Exists.intro); exact ⟨⟨2 + 1, by decide, rfl, hall2, k0.alloc _, bal nx _⟩, rfl⟩)
                      case measure => simp [intOf]
                    · go_wp2
                      go_roundw
                      case rel => first | exact ⟨2 + 1, by decide, rfl, hall2, k0.alloc _, bal nx _⟩ | ((repeat apply Exists.intro); exact ⟨⟨2 + 1, by decide, rfl, hall2, k0.alloc _, bal nx _⟩, rfl⟩)
                      case measure => simp [intOf]
                  · have ho : o = true := a3.resolve_right hz
                    have hz2 : 0 < lf := by omega
                    subst ho
                    clear hz a3
                    go_wp2
                    go_roundw
                    case rel => first | exact ⟨2 + 1, by decide, rfl, hall2, k0.alloc _, bal nx _⟩ | ((repeat apply Exists.intro); exact ⟨⟨2 + 1, by decide, rfl, hall2, k0.alloc _, bal nx _⟩, rfl⟩)
                    case measure => simp [intOf]
                · replace hoo : hOk t.h2 = false := by simpa using hoo
                  have hgf := hid (hnh.out hoo)
                  have hof2 : ¬ (0 ≤ lf ∧ lf ≤ 24 ∧ (o = true ∨ lf = 0)) := fun h => by rw [hof.2 h] at hoo; cases hoo
                  clear hof hoo
                  by_cases q1 : lf < 0
                  · clear hof2
                    go_wp2
                    go_ret
                    exact ⟨ret_b hgf.out.symm, bal nx _⟩
                  · by_cases q2 : 24 < lf
                    · clear hof2
                      go_wp2
                      go_ret
                      exact ⟨ret_b hgf.out.symm, bal nx _⟩
                    · have q3 : (lf != 0) = true := bne_iff_ne.2 (fun hz => hof2 ⟨by omega, by omega, .inr hz⟩)
                      have q4 : o = false := by
                        cases o
                        · rfl
                        · exact absurd ⟨by omega, by omega, .inl rfl⟩ hof2
                      subst q4
                      clear hof2
                      go_wp2
                      go_ret
                      exact ⟨ret_b hgf.out.symm, bal nx _⟩
            · obtain rfl : k = 3 := by omega
              have hv := hid (hyes.out hsq.out hcm'.out hcd'.out hrise.out hapm.out (hall.out 0 (by decide)) (hall.out 1 (by decide)) (hall.out 2 (by decide)))
              clear hall
              go_wp2
              go_ret
              exact ⟨ret_b hv.out.symm, nx⟩
end Go.Proofs.YtjhmfljlclajnacGreatDoor
namespace Wb
open Go Go.RowKit
theorem w64 (x : Int) : RowKit.wrap64 x = IntKind.i64.wrap x := by
  first
    | rfl
    | (unfold RowKit.wrap64; rw [IntKind.wrap_i64])
    | (unfold RowKit.wrap64; simp [IntKind.wrap, IntKind.bits, IntKind.signed])
def askP (t : Txn) : Nat → Int
  | 0 => ((t.mt.length + t.rev.length : Nat) : Int)
  | 1 => IntKind.i64.wrap (((t.mt.length + t.rev.length : Nat) : Int) + t.h0.left)
  | 2 => IntKind.i64.wrap (IntKind.i64.wrap (((t.mt.length + t.rev.length : Nat) : Int) + t.h0.left) + t.h1.left)
  | _ => askedI t
end Wb
namespace Go.Proofs.YtjhmfljlclajnacGreatDoor
open Go.RowKit Wb
set_option maxRecDepth 100000
set_option maxHeartbeats 4000000
theorem txn_Asked (t : Txn) (v : Value) (w : World) (h : RTxn w v t) :
    Calls Tryz.prog 32 #[v] w fun e w' => e = .returned (.int .i64 (askedI t)) ∧ Below w.heap.size w w' := by
  obtain ⟨vm, vd, vr, rfl, hm, hd, hr, n1, n2, n3⟩ := h
  obtain ⟨am, cm, rfl, _⟩ := hm.form
  obtain ⟨ad, cd, rfl, _⟩ := hd.form
  obtain ⟨ar, cr, rfl, _⟩ := hr.form
  have hi3 := fun w => idx3 w t.h0.on t.h1.on t.h2.on t.h0.left t.h1.left t.h2.left
  have h0 : askP t 0 = (t.mt.length : Int) + (t.rev.length : Int) := by show ((t.mt.length + t.rev.length : Nat) : Int) = _; omega
  have h3 : askP t 3 = askedI t := rfl
  have hw : IntKind.i64.wrap ((t.mt.length : Int) + (t.rev.length : Int)) = (t.mt.length : Int) + (t.rev.length : Int) := IntWalk.i64_in _ (by omega)
  unfold txnV
  generalize askedI t = aI at *
  have k0 := Blk.new w #[.int .i64 t.seq, .slice am t.mt.length cm, .slice ad t.dt.length cd, .slice ar t.rev.length cr, .bool t.h0.on, .int .i64 t.h0.left, .bool t.h1.on, .int .i64 t.h1.left, .bool t.h2.on, .int .i64 t.h2.left] 40
  have nx := bal (b0 w) (.cells #[.int .i64 t.seq, .slice am t.mt.length cm, .slice ad t.dt.length cd, .slice ar t.rev.length cr, .bool t.h0.on, .int .i64 t.h0.left, .bool t.h1.on, .int .i64 t.h1.left, .bool t.h2.on, .int .i64 t.h2.left] 40)
  have e0 := k0.cell 0; have e1 := k0.cell 1; have e2 := k0.cell 2; have e3 := k0.cell 3; have e4 := k0.cell 4; have e5 := k0.cell 5; have e6 := k0.cell 6; have e7 := k0.cell 7; have e8 := k0.cell 8; have e9 := k0.cell 9; simp only [Zga, Zgb, Zgc] at e0 e1 e2 e3 e4 e5 e6 e7 e8 e9; have l0 := k0.lt
  replace hi3 := hid hi3; replace h0 := hid h0; replace h3 := hid h3
  clear hm hd hr
  go_enter Tryz.func32, Tryz.ntmps32
  go_wp2
  go_loopw [3, 5, 15] (fun s _ i wr => ∃ k : Nat, k ≤ 3 ∧ i = .int .i64 k ∧ s = .int .i64 (askP t k) ∧ Blk wr w.heap.size #[.int .i64 t.seq, .slice am t.mt.length cm, .slice ad t.dt.length cd, .slice ar t.rev.length cr, .bool t.h0.on, .int .i64 t.h0.left, .bool t.h1.on, .int .i64 t.h1.left, .bool t.h2.on, .int .i64 t.h2.left] 40 ∧ Below w.heap.size w wr) (fun _ _ i _ => 3 - (intOf i).toNat)
  case atStart => exact ⟨0, by decide, rfl, by rw [h0.out], k0, nx⟩
  case round =>
    clear k0 nx e0 e1 e2 e3 e4 e5 e6 e7 e8 e9 l0
    obtain ⟨k, hk, rfl, rfl, k0, nx⟩ := hrel
    have l0 := k0.lt
    by_cases hlt : k < 3
    · obtain (rfl | rfl | rfl) : k = 0 ∨ k = 1 ∨ k = 2 := by omega
      · have hi := hi3.out wr
        replace hi := hi.1
        have hs := hid (show askP t (0 + 1) = RowKit.wrap64 (askP t 0 + t.h0.left) from (w64 _).symm)
        generalize askP t 0 = a0 at *
        go_wp2
        go_roundw
        case rel => first | exact ⟨0 + 1, by decide, rfl, by rw [hs.out], k0.alloc _, bal nx _⟩ | ((repeat apply Exists.intro); exact ⟨⟨0 + 1, by decide, rfl, by rw [hs.out], k0.alloc _, bal nx _⟩, rfl⟩)
        case measure => simp [intOf]
      · have hi := hi3.out wr
        replace hi := hi.2.1
        have hs := hid (show askP t (1 + 1) = RowKit.wrap64 (askP t 1 + t.h1.left) from (w64 _).symm)
        generalize askP t 1 = a0 at *
        go_wp2
        go_roundw
        case rel => first | exact ⟨1 + 1, by decide, rfl, by rw [hs.out], k0.alloc _, bal nx _⟩ | ((repeat apply Exists.intro); exact ⟨⟨1 + 1, by decide, rfl, by rw [hs.out], k0.alloc _, bal nx _⟩, rfl⟩)
        case measure => simp [intOf]
      · have hi := hi3.out wr
        replace hi := hi.2.2
        have hs := hid (show askP t (2 + 1) = RowKit.wrap64 (askP t 2 + t.h2.left) from (w64 _).symm)
        generalize askP t 2 = a0 at *
        go_wp2
        go_roundw
        case rel => first | exact ⟨2 + 1, by decide, rfl, by rw [hs.out], k0.alloc _, bal nx _⟩ | ((repeat apply Exists.intro); exact ⟨⟨2 + 1, by decide, rfl, by rw [hs.out], k0.alloc _, bal nx _⟩, rfl⟩)
        case measure => simp [intOf]
    · obtain rfl : k = 3 := by omega
      rw [h3.out]
      go_wp2
      go_ret
      exact ⟨rfl, nx⟩
end Go.Proofs.YtjhmfljlclajnacGreatDoor
namespace Wb
open Go Go.RowKit
theorem any_hit {l : List Hnd} {k : Nat} (hk : k < l.length) (h : l[k].on = true) : l.any (·.on) = true := List.any_eq_true.2 ⟨_, List.getElem_mem hk, h⟩
theorem any_step {l : List Hnd} {k : Nat} (hk : k < l.length) (h0 : (l.take k).any (·.on) = false) (h : l[k].on = false) : (l.take (k + 1)).any (·.on) = false := by
  rw [List.take_succ_eq_append_getElem hk, List.any_append, h0]
  simp [h]
theorem any_full {l : List Hnd} {k : Nat} (hk : ¬ k < l.length) (h0 : (l.take k).any (·.on) = false) : l.any (·.on) = false := by
  rw [List.take_of_length_le (by omega)] at h0; exact h0
theorem hnds_RL {w : World} {b : Nat} {t : TypeId} {x0 x1 x2 x3 : Value} (p q r : Hnd) (h : Blk w b #[x0, x1, x2, x3, .bool p.on, .int .i64 p.left, .bool q.on, .int .i64 q.left, .bool r.on, .int .i64 r.left] t) : RL hndC w (.slice (some ⟨b, 4, none⟩) 3 3) [p, q, r] := by
  refine ⟨_, _, rfl, Nat.le_refl _, by unfold maxLen; omega, .inr ⟨_, _, rfl, fun j u hj => ?_⟩⟩
  rw [h.cell]
  rw [← hj]
  have hl : j < 6 := by
    have := (List.getElem?_eq_some_iff.1 hj).1
    simpa [hndC] using this
  obtain (rfl | rfl | rfl | rfl | rfl | rfl) : j = 0 ∨ j = 1 ∨ j = 2 ∨ j = 3 ∨ j = 4 ∨ j = 5 := by omega
  all_goals rfl
end Wb
namespace Go.Proofs.YtjhmfljlclajnacGreatDoor
open Go.RowKit Wb
set_option maxRecDepth 100000
set_option maxHeartbeats 4000000
theorem txn_Open1 (h : Hnd) (w : World) : Calls Tryz.prog 69 #[.agg #[.bool h.on, .int .i64 h.left]] w fun e w' => e = .returned (.bool h.on) ∧ Below w.heap.size w w' := by
  have k0 := Blk.new w #[.bool h.on, .int .i64 h.left] 37
  have c0 := k0.cell 0; have c1 := k0.cell 1
  simp only [Zga, Zgb, Zgc] at c0 c1
  go_enter Tryz.func69, Tryz.ntmps69
  go_wp2
  go_ret
  exact ⟨rfl, bal (b0 w) _⟩
theorem hnd_Index (l : List Hnd) (v : Value) (w : World) (h : RL hndC w v l) (hl : l.length ≤ 3) :
    Calls Tryz.prog 113 #[v, .func (.func 69) #[] #[]] w fun e w' => (∃ r : Int, e = .returned (.int .i64 r) ∧ (decide (r ≥ 0) = l.any (·.on))) ∧ Below w.heap.size w w' := by
  obtain ⟨a, cap, rfl, _⟩ := h.form
  have hO := fun h w => txn_Open1 h w
  have hhit := fun k (hk : k < l.length) hh => any_hit (l := l) hk hh
  have hst := fun k (hk : k < l.length) h0 hh => any_step (l := l) hk h0 hh
  have hfu := fun k (hk : ¬ k < l.length) h0 => any_full (l := l) hk h0
  generalize hal : l.any (·.on) = al at *
  replace h := hid h; replace hO := hid hO; replace hhit := hid hhit; replace hst := hid hst; replace hfu := hid hfu
  clear hal
  go_enter Tryz.func113, Tryz.ntmps113
  go_wp2
  go_loopw [5, 8] (fun _ i wr => ∃ k : Nat, k ≤ l.length ∧ i = .int .i64 k ∧ Hid ((l.take k).any (·.on) = false) ∧ Below w.heap.size w wr) (fun _ i _ => l.length - (intOf i).toNat)
  case atStart => exact ⟨0, Nat.zero_le _, rfl, rfl, b0 w⟩
  case round =>
    obtain ⟨k, hk, rfl, hall, nx⟩ := hrel
    by_cases hlt : k < l.length
    · obtain ⟨b1, o1, rfl, c0, c1⟩ := RL.at2 (fun x => .bool x.on) (fun x => .int .i64 x.left) (fun _ => rfl) (h.out.below nx) hlt
      have hh1 := hid (hhit.out k hlt)
      have hh2 := hid (fun hh => hst.out k hlt hall.out hh)
      generalize l[k] = x at *
      have hOx := hO.out x
      cases hx : x.on with
      | true =>
        have hv := hid (hh1.out hx)
        rw [hx] at hOx c0
        replace hOx := hid hOx
        clear hx hh1 hh2 hall
        go_wp2_with (go_at_call 69; go_loud ((with_reducible refine (hOx.out _).mono ?_); rintro e w1 ⟨rfl, hb1⟩))
        go_ret
        exact ⟨⟨_, rfl, by rw [hv.out]; exact decide_eq_true (Int.natCast_nonneg _)⟩, bgo nx hb1⟩
      | false =>
        have hy := hid (hh2.out hx)
        rw [hx] at hOx c0
        replace hOx := hid hOx
        clear hx hh1 hh2 hall
        go_wp2_with (go_at_call 69; go_loud ((with_reducible refine (hOx.out _).mono ?_); rintro e w1 ⟨rfl, hb1⟩))
        go_roundw
        case rel => first | exact ⟨k + 1, by omega, by go_num, hy, bgo nx hb1⟩ | ((repeat apply Exists.intro); exact ⟨⟨k + 1, by omega, by go_num, hy, bgo nx hb1⟩, rfl⟩)
        case measure => simp [intOf]; omega
    · have hv := hid (hfu.out k hlt hall.out)
      clear hall
      go_wp2
      go_ret
      exact ⟨⟨_, rfl, by rw [hv.out]; rfl⟩, nx⟩
theorem hnd_Contains (l : List Hnd) (v : Value) (w : World) (h : RL hndC w v l) (hl : l.length ≤ 3) :
    Calls Tryz.prog 68 #[v, .func (.func 69) #[] #[]] w fun e w' => e = .returned (.bool (l.any (·.on))) ∧ Below w.heap.size w w' := by
  have hI := hid (hnd_Index l v w h hl)
  obtain ⟨a, cap, rfl, _⟩ := h.form
  generalize l.any (·.on) = al at *
  clear h
  go_enter Tryz.func68, Tryz.ntmps68
  go_wp2_with (go_at_call 113; go_loud ((with_reducible refine hI.out.mono ?_); rintro e w1 ⟨⟨r, rfl, hr⟩, hb1⟩; replace hr := hid hr))
  all_goals
    go_ret
    refine ⟨ret_b ?_, hb1⟩
    have := hr.out
    first | exact this | (rw [← this]; (try simp_all); (try omega))
theorem txn_Open (t : Txn) (v : Value) (w : World) (h : RTxn w v t) :
    Calls Tryz.prog 29 #[v] w fun e w' => e = .returned (.bool (openB t)) ∧ Below w.heap.size w w' := by
  obtain ⟨vm, vd, vr, rfl, hm, hd, hr, n1, n2, n3⟩ := h
  obtain ⟨am, cm, rfl, _⟩ := hm.form
  obtain ⟨ad, cd, rfl, _⟩ := hd.form
  obtain ⟨ar, cr, rfl, _⟩ := hr.form
  unfold txnV
  have k0 := Blk.new w #[.int .i64 t.seq, .slice am t.mt.length cm, .slice ad t.dt.length cd, .slice ar t.rev.length cr, .bool t.h0.on, .int .i64 t.h0.left, .bool t.h1.on, .int .i64 t.h1.left, .bool t.h2.on, .int .i64 t.h2.left] 40
  have nx := bal (b0 w) (.cells #[.int .i64 t.seq, .slice am t.mt.length cm, .slice ad t.dt.length cd, .slice ar t.rev.length cr, .bool t.h0.on, .int .i64 t.h0.left, .bool t.h1.on, .int .i64 t.h1.left, .bool t.h2.on, .int .i64 t.h2.left] 40)
  have hC := hnd_Contains [t.h0, t.h1, t.h2] _ _ (hnds_RL t.h0 t.h1 t.h2 k0) (Nat.le_refl 3)
  have e : [t.h0, t.h1, t.h2].any (·.on) = openB t := by unfold openB; simp [Bool.or_assoc]
  rw [e] at hC
  generalize openB t = ob at *
  replace hC := hid hC
  clear hm hd hr e k0
  go_enter Tryz.func29, Tryz.ntmps29
  go_wp2_with (go_at_call 68; go_loud ((with_reducible refine hC.out.mono ?_); rintro e w1 ⟨rfl, hb1⟩))
  go_ret
  exact ⟨rfl, bgo nx hb1⟩
end Go.Proofs.YtjhmfljlclajnacGreatDoor
