/- Parts of the proof: Range TSm TSn JnV JnW JnX JnZ JnQ JnU JnY LSet Disk8 Disk7. -/
import Derived.Test.YtjhmfljlclajnacGreatDoorKTopSettles4
import Derived.RangeFuncNested
import Derived.OrdersIn
import Derived.Test.YtjhmfljlclajnacGreatDoorKTopSettles0
import Derived.Deep.QuietTactic
import Derived.BigQuiet
import Derived.ChangeKeysEq
import Derived.Test.YtjhmfljlclajnacGreatDoorChecked
import Derived.Deep.DeepCutAuto
import Derived.Test.YtjhmfljlclajnacGreatDoorKTopSettles5
import Derived.Test.YtjhmfljlclajnacGreatDoorKTopSettles3
import Derived.Test.YtjhmfljlclajnacGreatDoorKTopSettles8
import Derived.Test.YtjhmfljlclajnacGreatDoorKTopSettles6
import Derived.Test.YtjhmfljlclajnacGreatDoorURegCall
import Derived.Deep.RegionHeld3
import Derived.Deep.CutBlock
set_option linter.unusedVariables false
set_option linter.unusedSimpArgs false
namespace Wb
open Go Go.RowKit
abbrev FW : Fence := Fence.wide
def Iter (P : Program) (gf : Nat) (lb : Array Value) (xs : List Value) (B : List Nat) (w : World) : Prop :=
 ∀ (l : Nat) (J : Nat → World → Prop) (W : World), (∀ b ∈ B, W.heap[b]? = w.heap[b]?) → (∀ k A A', J k A → Below A.heap.size A A' → J k A') →
  (∀ k (hk : k < xs.length) A, J k A → YieldAt FW 0 P l #[xs[k]] A fun e A' => e = .returned (.bool true) ∧ J (k + 1) A' ∧ A.heap.size ≤ A'.heap.size ∧ ∀ b ∈ B, A'.heap[b]? = A.heap[b]?) →
  J 0 W → CallsIn FW 0 P gf (#[.func (.yield l) #[] #[]] ++ lb) W fun e W' => (∃ v, e = .returned v) ∧ J xs.length W'
section
variable {P : Program} {Q : Exit → Act → World → Prop} {a : Act} {w : World}
structure AtBody (W W1 : World) (p : Prop) : Prop where
 eq : W1 = W
 run : p
def BodyRun (P : Program) (body : Code) (w : World) (B : List Nat) (I : Nat → World → Prop) (k l : Nat) (a1 : Act) : Prop :=
 ∀ W2, w.heap.size ≤ W2.heap.size → I k W2 → body.wpIn (FW.inRound l) 0 P (fun e _ W' => e = .normal ∧ KeepsFrom w.heap.size W2 W' ∧ (∀ b ∈ B, W'.heap[b]? = W2.heap[b]?) ∧ I (k + 1) W') a1 W2
theorem wp_range {g : Operand} {p : Tmp} {assign body : Code} {gf : Nat} {lb : Array Value} {xs : List Value} {B : List Nat} (hg : a.eval g = .func (.func gf) #[] lb) (eg : ∀ args w, (callFunc gf args).run P w = .ok (.enter gf args) w)
    (hB : ∀ b ∈ B, b < w.heap.size) (hit : Iter P gf lb xs B w) (I : Nat → World → Prop) (hI : ∀ k A A', I k A → Below A.heap.size A A' → I k A')
    (hI2 : ∀ k A l o o', I k A → w.heap.size ≤ l → A.heap[l]? = some o → o.isCells = false → I k (A.putObj l o')) (h0 : I 0 w)
    (hround : ∀ k (hk : k < xs.length) l W, assign.wpIn (FW.inRound l) 0 P (Exit.then (fun a1 W1 => AtBody W W1 (BodyRun P body w B I k l a1)) (fun _ _ _ => False)) { tmps := a.tmps.setIfInBounds p xs[k], defers := [] } W)
    (hdone : ∀ D W, w.heap.size ≤ D → I xs.length W → W.heap[D]? = some (.deferred (some [])) → Q .normal { a with defers := { target := .collected D, args := #[] } :: a.defers } W) :
    (Code.rangeFunc g #[p] assign body).wp P Q a w := by
 refine (wpIn_wide (n := 0)).1 (wpIn_rangeFunc fun fn hfn => ?_)
 obtain ⟨rec, hrec⟩ : ∃ rec : LoopState → Option Code → Loop, rec = fun st pe => { state := st, pending := pe, fn, tmps := a.tmps, params := #[p], assign, body, defers := w.heap.size } := ⟨_, rfl⟩
 obtain ⟨W1, hW1⟩ : ∃ W1, (w.alloc (.deferred (some []))).alloc (.loop (rec .ready none)) = W1 := ⟨_, rfl⟩
 have hb1 : Below w.heap.size w W1 := by rw [← hW1]; exact bal (bal (b0 w) _) _
 have hL1 : W1.heap[w.heap.size + 1]? = some (.loop (rec .ready none)) := by
  rw [← hW1]; have := World.alloc_heap_new (w.alloc (.deferred (some []))) (.loop (rec .ready none)); rwa [World.size_alloc] at this
 have hK1 : W1.heap[w.heap.size]? = some (.deferred (some [])) := by
  rw [← hW1]; exact (Below.heap_alloc _ _ _ (by simp)).trans (World.alloc_heap_new w _)
 have hne : ∀ {W : World} {l : Nat} {o : Obj}, w.heap.size ≤ l → ∀ b ∈ B, (W.putObj l o).heap[b]? = W.heap[b]? := fun hl b hb => World.putObj_heap_other (by have := hB b hb; omega)
 refine ⟨w.heap.size + 1, [{ target := .collected w.heap.size, args := #[] }], W1, { target := .fn (.func gf) lb, args := #[.func (.yield (w.heap.size + 1)) #[] #[]] }, W1, gf,
  #[.func (.yield (w.heap.size + 1)) #[] #[]] ++ lb, W1, ?_, ?_, fun _ _ => trivial, ?_, fun h => by simp [Fence.wide] at h, ?_⟩
 ·rw [← hW1, hrec]; exact run_enterLoop_outer _ _ _ _ _
 ·simp only [resolve, hg]
  simp [go_sem]
 ·simp [invoke, go_sem, eg]
 refine (hit (w.heap.size + 1) (fun k W => I k W ∧ W.heap[w.heap.size + 1]? = some (.loop (rec .ready none)) ∧ W.heap[w.heap.size]? = some (.deferred (some [])) ∧ w.heap.size ≤ W.heap.size) W1
  (fun b hb => hb1.block b (hB b hb)) (fun k A A' h hb => ?_) (fun k hk A h => ?_) ⟨hI _ _ _ h0 hb1, hL1, hK1, hb1.size⟩).mono ?_
 ·obtain ⟨h1, h2, h3, h4⟩ := h
  exact ⟨hI _ _ _ h1 hb, (hb.block _ (Array.getElem?_eq_some_iff.1 h2).1).trans h2, (hb.block _ (Array.getElem?_eq_some_iff.1 h3).1).trans h3, Nat.le_trans h4 hb.size⟩
 ·obtain ⟨hi, hl, hk1, hsz⟩ := h
  have hlt : w.heap.size + 1 < A.heap.size := (Array.getElem?_eq_some_iff.1 hl).1
  have hy := run_yield (P := P) (args := #[xs[k]]) hl (by rw [hrec]; simp)
  rw [hrec] at hy
  have hl2 : (A.putObj (w.heap.size + 1) (.loop { rec .ready none with state := .busy })).heap[w.heap.size + 1]? = some (.loop { rec .ready none with state := .busy }) := World.putObj_heap_same hlt
  have hk2 : (A.putObj (w.heap.size + 1) (.loop { rec .ready none with state := .busy })).heap[w.heap.size]? = some (.deferred (some [])) := (World.putObj_heap_other (by omega)).trans hk1
  have hts : (#[p].zip #[xs[k]]).foldl (fun t (x : Tmp × Value) => t.setIfInBounds x.1 x.2) a.tmps = a.tmps.setIfInBounds p xs[k] := by simp
  refine ⟨fn, _, assign, body, hy, roundIn_of_wpIn hfn ?_⟩
  have hr0 := hround k hk (w.heap.size + 1) A
  rw [← hts] at hr0
  refine wpIn_mono hr0 ?_
  intro e a1 W1 hq
  cases e with
  | normal =>
   obtain ⟨rfl, hq⟩ := hq
   refine ⟨_, run_beginRound hl (by rw [hrec]), wpIn_mono (hq _ (by simpa using hsz) (hI2 _ _ _ _ _ hi (by omega) hl rfl)) ?_⟩
   rintro e a3 W3 ⟨rfl, hk3, hB3, hi3⟩
   have hl3 := hk3.same _ _ (by omega) hl2 rfl
   have hr := run_endRound (P := P) none hl3
   rw [hrec] at hr hl3 ⊢
   have hlt3 := (Array.getElem?_eq_some_iff.1 hl3).1
   refine ⟨_, _, hr, rfl, ⟨hI2 _ _ _ _ _ hi3 (by omega) hl3 rfl, World.putObj_heap_same hlt3, (World.putObj_heap_other (by omega)).trans (hk3.same _ _ (Nat.le_refl _) hk2 rfl), ?_⟩, ?_, fun b hb => ?_⟩
   ·have := hk3.size; simp at this ⊢; omega
   ·have := hk3.size; simp at this ⊢; omega
   ·rw [hne (by omega) b hb, hB3 b hb]
    exact hne (by omega) b hb
  | _ => exact hq.elim
 ·rintro e W2 ⟨⟨v, rfl⟩, hi, hl, hk, hsz⟩
  exact ⟨none, _, by have := run_endLoop (P := P) hl (by rw [hrec]; simp); rw [hrec] at this; exact this, hdone _ _ (Nat.le_refl _) (hI2 _ _ _ _ _ hi (by omega) hl rfl) ((World.putObj_heap_other (by omega)).trans hk)⟩
theorem upon_in {F : Fence} {n : Nat} (hd : F.depth = none) (hf : ∀ f, F.fn f) (hF : ∀ m, Machine.fenced P F m) {o : Oper} {K : Act → World → Prop} : ∀ {r : Result Next}, o.upon P a K Q r → o.uponIn F n P a K Q r
 | .ok (.value v) w', h => h
 | .ok .skip w', h => h
 | .ok (.defer d) w', h => h
 | .ok (.enter f args) w', h => ⟨fun hh => (by rw [hd] at hh; cases hh), hf f, fun cs _ => by
     obtain ⟨e, w2, fr, h1, h2, h3⟩ := h cs
     refine ⟨e, w2, fr, ?_, ?_, h3⟩
     · cases e <;> exact h1
     · cases e with
       | returned v => exact (StepsIn.of_steps h2).mono fun m _ => hF m
       | panicked c => exact (StepsIn.of_steps h2).mono fun m _ => hF m
       | outgrown => exact h2⟩
 | .ok (.row row args) w', h => ⟨fun hh => (by rw [hd] at hh; cases hh), fun c cs _ => by
     obtain ⟨v, w2, h1, h2⟩ := h c cs
     exact ⟨v, w2, h1, (StepsIn.of_steps h2).mono fun m _ => hF m⟩⟩
 | .ok (.round ..) w', h => h.elim
 | .halt x w', h => by cases x <;> first | exact h | exact h.elim
def noDefer : Oper → Bool := fun o => match o.op with | .defer _ => false | _ => true
theorem oper_in {F : Fence} {n : Nat} (hd : F.depth = none) (hf : ∀ f, F.fn f) (hF : ∀ m, Machine.fenced P F m) {o : Oper} (ho : noDefer o = true) {K : Act → World → Prop} (h : o.wp P a w K Q) : o.wpIn F n P a w K Q := by
 have hs : o.semAt F.round a.eval = execOp a.eval o := by
  cases hr : F.round with
  | none => simp [Oper.semAt]
  | some l => exact Oper.semAt_some l _ _ fun c hc => by unfold noDefer at ho; rw [hc] at ho; cases ho
 refine ⟨fun f _ => hf f, ?_⟩
 rw [hs]
 exact upon_in hd hf hF h
theorem list_in {F : Fence} {n : Nat} (hd : F.depth = none) (hf : ∀ f, F.fn f) (hF : ∀ m, Machine.fenced P F m) {ops : Array Oper} (hno : ∀ a w, ¬ Q .outgrown a w) : ∀ (l : List Oper) (a : Act) (w : World), l.all noDefer = true → wpList P ops Q l a w → wpListIn F n P ops Q l a w
 | [], _, _, _, h => h
 | o :: r, a, w, hn, h => by
  rw [List.all_cons, Bool.and_eq_true] at hn
  unfold wpList at h
  unfold wpListIn
  split at h
  ·rename_i hw
   rw [if_pos hw]
   exact Oper.wpIn_mono (fun a w hh => list_in hd hf hF hno r a w hn.2 hh) (oper_in hd hf hF hn.1 (h.resolve_right fun hh => by obtain ⟨_, a, w, hq⟩ := hh; exact hno a w hq))
  ·rename_i hw
   rw [if_neg hw]
   exact ⟨fun f _ => hf f, list_in hd hf hF hno r _ _ hn.2 h⟩
theorem region_in {l id : Nat} {ops : List Oper} (hn : ops.all noDefer = true) (hno : ∀ a w, ¬ Q .outgrown a w) (h : wpList P ops.toArray Q ops a w) : (Code.region id ops.toArray false).wpIn (FW.inRound l) 0 P Q a w :=
 wpIn_region_lit (list_in (F := FW.inRound l) rfl (fun _ => trivial) (fun m => fenced_wide P m) hno _ _ _ hn h)
end
section
variable {S : List Nat} {w0 W W' : World} {L L' : List Ent} {R R' : List Rd}
theorem St.restart (X : St S w0 W L R) : St (L.map Ent.g) W W L R := ⟨Mv.refl _ _, X.nd, X.blk, fun e he => .inl (List.mem_map_of_mem he), X.rd⟩
theorem St.back (X : St S w0 W L R) (Y : St (L.map Ent.g) W W' L' R') : St S w0 W' L' R' :=
 ⟨X.mv.then Y.mv fun k hk => by
     obtain ⟨e, he, rfl⟩ := List.mem_map.1 hk
     exact X.own e he, Y.nd, Y.blk, fun e he => by
     rcases Y.own e he with h | h
     · obtain ⟨e2, he2, heq⟩ := List.mem_map.1 h
       rw [← heq]; exact X.own e2 he2
     · exact .inr (Nat.le_trans X.mv.size h), Y.rd⟩
theorem St.keepsFrom (X : St S w0 W L R) (Y : St (L.map Ent.g) W W' L' R') (B : Nat) : KeepsFrom B W W' :=
 ⟨Y.mv.size, fun k o _ hk ho => by
  refine (Y.mv.block k (Array.getElem?_eq_some_iff.1 hk).1 fun hm => ?_).trans hk
  obtain ⟨e, he, rfl⟩ := List.mem_map.1 hm
  have := X.blk e he
  unfold Blk at this
  rw [this] at hk
  cases hk
  cases ho⟩
theorem St.other (X : St S w0 W L R) (Y : St (L.map Ent.g) W W' L' R') {D : Nat} {o : Obj} (hD : W.heap[D]? = some o) (ho : o.isCells = false) : W'.heap[D]? = some o := (X.keepsFrom Y 0).same D o (Nat.zero_le _) hD ho
theorem St.putO (X : St S w0 W L R) {l : Nat} {o : Obj} (o' : Obj) (hl : w0.heap.size ≤ l) (ho : W.heap[l]? = some o) (hc : o.isCells = false) (hS : l ∉ S) : St S w0 (W.putObj l o') L R := by
 have hne : ∀ {b : Nat} {cs t f}, W.heap[b]? = some (.cells cs t f) → b ≠ l := fun hb e => by
  rw [e, ho] at hb; cases hb; cases hc
 have hcell : ∀ {b j : Nat} {u : Value}, W.cell? ⟨b, j, none⟩ = some u → (W.putObj l o').cell? ⟨b, j, none⟩ = some u := fun {b j u} h => by
  obtain ⟨q, hq, hw⟩ := not_walk_of_cell h
  have hb : b ≠ l := fun e => by
   subst e
   unfold World.cell? at h
   rw [ho] at h
   cases o <;> simp_all [Obj.isCells]
  rw [← h]
  exact World.cell?_of_block (World.putObj_heap_other hb)
 refine ⟨⟨X.mv.os, X.mv.tape, X.mv.output, by simpa using X.mv.size, fun k hk hn => ?_⟩, X.nd, fun e he => ?_, X.own, fun r hr => ⟨?_, (X.rd r hr).2⟩⟩
 ·rw [World.putObj_heap_other (by omega)]; exact X.mv.block k hk hn
 ·have := X.blk e he
  unfold Blk at this ⊢
  rw [World.putObj_heap_other (hne this)]; exact this
 ·obtain ⟨a, cap, hv, h1, h2, h3⟩ := (X.rd r hr).1
  exact ⟨a, cap, hv, h1, h2, h3.imp id fun ⟨b, off, ha, hc2⟩ => ⟨b, off, ha, fun j u hj => hcell (hc2 j u hj)⟩⟩
end
theorem St.gs6 {S : List Nat} {w0 w : World} {a b c d e f : Nat} {ca cb cc cd ce cf : List Value} {ta tb tc td te tf : TypeId} {L : List Ent} {R : List Rd} (_ : St S w0 w (⟨a, ca, ta⟩ :: ⟨b, cb, tb⟩ :: ⟨c, cc, tc⟩ :: ⟨d, cd, td⟩ :: ⟨e, ce, te⟩ :: ⟨f, cf, tf⟩ :: L) R) : ∃ x1 x2 x3 x4 x5 x6, x1 = a ∧ x2 = b ∧ x3 = c ∧ x4 = d ∧ x5 = e ∧ x6 = f := ⟨_, _, _, _, _, _, rfl, rfl, rfl, rfl, rfl, rfl⟩
theorem St.gs4 {S : List Nat} {w0 w : World} {a b c d : Nat} {ca cb cc cd : List Value} {ta tb tc td : TypeId} {L : List Ent} {R : List Rd} (_ : St S w0 w (⟨a, ca, ta⟩ :: ⟨b, cb, tb⟩ :: ⟨c, cc, tc⟩ :: ⟨d, cd, td⟩ :: L) R) : ∃ x1 x2 x3 x4, x1 = a ∧ x2 = b ∧ x3 = c ∧ x4 = d := ⟨_, _, _, _, rfl, rfl, rfl, rfl⟩
theorem St.front (pre : List Ent) {S : List Nat} {w0 w : World} {x : Ent} {L : List Ent} {R : List Rd} (X : St S w0 w (pre ++ x :: L) R) : St S w0 w (x :: (pre ++ L)) R := X.perm List.perm_middle
theorem St.gs2 {S : List Nat} {w0 w : World} {a b : Nat} {ca cb : List Value} {ta tb : TypeId} {L : List Ent} {R : List Rd} (_ : St S w0 w (⟨a, ca, ta⟩ :: ⟨b, cb, tb⟩ :: L) R) : ∃ x1 x2, x1 = a ∧ x2 = b := ⟨_, _, rfl, rfl⟩
theorem St.gs1 {S : List Nat} {w0 w : World} {a : Nat} {ca : List Value} {ta : TypeId} {L : List Ent} {R : List Rd} (_ : St S w0 w (⟨a, ca, ta⟩ :: L) R) : ∃ x1, x1 = a := ⟨_, rfl⟩
theorem St.less {S : List Nat} {w0 w : World} {L L2 : List Ent} {R R2 : List Rd} (X : St S w0 w L R) (hL : L2.Sublist L) (hR : ∀ r ∈ R2, r ∈ R) : St S w0 w L2 R2 :=
 ⟨X.mv, (hL.map _).nodup X.nd, fun x hx => X.blk x (hL.subset hx), fun x hx => X.own x (hL.subset hx), fun r hr => ⟨(X.rd r (hR r hr)).1, (X.rd r (hR r hr)).2.imp id fun h b hb x hx => h b hb x (hL.subset hx)⟩⟩
theorem own_base {α : Type} {f : α → List Value} {base : Nat} {e : TypeId} {c : Nat} {w : World} {v : Value} {l : List α} (hF : Flat f c) (h : Wb.Own f base e c w v l) (hl : 0 < l.length) : ∃ g cap, v = .slice (some ⟨g, 0, none⟩) l.length cap ∧ l.length ≤ cap ∧ cap ≤ maxLen := by
 obtain ⟨h1, h2⟩ := h
 rcases h2 with ⟨rfl, h0⟩ | ⟨g, cap, cur, rfl, hb, hg, hn, hc, hs, ht⟩
 ·omega
 ·exact ⟨g, cap, rfl, hn, hc⟩
theorem RL.part {α : Type} {f : α → List Value} {c : Nat} (hF : ∀ x, (f x).length = c) {w : World} {b off n cap : Nat} {l : List α} (h : RL f w (.slice (some ⟨b, off, none⟩) n cap) l) (j m : Nat) (hm : j + m ≤ l.length) : RL f w (.slice (some ⟨b, off + j * c, none⟩) m m) ((l.drop j).take m) := by
 obtain ⟨a, cap', hv, h1, h2, h3⟩ := h
 have hl : ((l.drop j).take m).length = m := by rw [List.length_take, List.length_drop]; omega
 refine ⟨_, m, by rw [hl], by rw [hl]; exact Nat.le_refl _, by omega, ?_⟩
 rcases h3 with h3 | ⟨b', off', ha, hc⟩
 ·left
  have h4 := flat_len hF l
  rw [h3, List.length_nil] at h4
  have h5 := flat_len hF ((l.drop j).take m)
  rw [hl] at h5
  have : m * c = 0 := by
   rcases Nat.mul_eq_zero.1 h4.symm with h6 | h6
   ·have : m = 0 := by omega
    rw [this, Nat.zero_mul]
   ·rw [h6, Nat.mul_zero]
  rw [this] at h5
  exact List.length_eq_zero_iff.1 h5
 ·right
  cases hv; cases ha
  refine ⟨b, off + j * c, rfl, fun i u hi => ?_⟩
  rw [Nat.add_assoc]
  apply hc
  have e : l.flatMap f = (l.take j).flatMap f ++ ((l.drop j).take m).flatMap f ++ ((l.drop j).drop m).flatMap f := by
   rw [← List.flatMap_append, ← List.flatMap_append, List.append_assoc, List.take_append_drop, List.take_append_drop]
  have hl2 : ((l.take j).flatMap f).length = j * c := by rw [flat_len hF, List.length_take]; congr 1; omega
  rw [e, List.append_assoc, List.getElem?_append_right (by omega), hl2, Nat.add_sub_cancel_left, List.getElem?_append_left (List.getElem?_eq_some_iff.1 hi).1]
  exact hi
theorem St.partR {S : List Nat} {w0 w : World} {L : List Ent} {R : List Rd} (X : St S w0 w L R) {α : Type} {f : α → List Value} {c : Nat} (hF : ∀ x, (f x).length = c) {b off n cap : Nat} {l : List α} (hR : Rd.of f (.slice (some ⟨b, off, none⟩) n cap) l ∈ R) (j m : Nat) (hm : j + m ≤ l.length) :
    St S w0 w L (Rd.of f (.slice (some ⟨b, off + j * c, none⟩) m m) ((l.drop j).take m) :: R) := by
 obtain ⟨h1, h2⟩ := X.rd _ hR
 refine X.addR (RL.part hF h1 j m hm) ?_
 rcases h2 with h2 | h2
 ·left
  have h3 : l.flatMap f = [] := h2
  have h4 := flat_len hF l
  rw [h3, List.length_nil] at h4
  have h5 := flat_len hF ((l.drop j).take m)
  rw [List.length_take, List.length_drop] at h5
  have : min m (l.length - j) * c = 0 := by
   rcases Nat.mul_eq_zero.1 h4.symm with h6 | h6
   ·have : min m (l.length - j) = 0 := by omega
    rw [this, Nat.zero_mul]
   ·rw [h6, Nat.mul_zero]
  rw [this] at h5
  exact List.length_eq_zero_iff.1 h5
 ·right
  intro b' hb e he
  cases hb
  exact h2 b rfl e he
theorem St.shortR {S : List Nat} {w0 w : World} {L : List Ent} {R : List Rd} (X : St S w0 w L R) {α : Type} {f : α → List Value} {a : Option Addr} {cap : Nat} {l : List α} (hR : Rd.of f (.slice a l.length cap) l ∈ R) : St S w0 w L (Rd.of f (.slice a l.length l.length) l :: R) := by
 obtain ⟨⟨a', c', hv, h1, h3, h4⟩, h2⟩ := X.rd _ hR
 cases hv
 exact X.addR ⟨_, _, rfl, Nat.le_refl _, Nat.le_trans h1 h3, h4⟩ (h2.imp id fun h b hb => h b (by cases a with | none => cases hb | some x => exact hb))
section
variable {P : Program} {fn : Func} {F : Ending → World → Prop} {a : Act} {w w0 : World} {S : List Nat} {L : List Ent} {R : List Rd}
theorem leave0 (h : bodyPost P fn F .ret a w) : bodyPostM FW 0 P fn F .ret a w := by
 obtain ⟨hd, v, h1, h2⟩ := h
 show LeavesInM FW 0 P fn a.tmps F a.defers .returning w
 rw [hd]
 exact ⟨v, h1, h2⟩
theorem leaveD {D : Nat} {ds : List Deferred} {T : Array Value} (hD : w.heap[D]? = some (.deferred (some []))) (h : LeavesInM FW 0 P fn T F ds .returning (w.putObj D (.deferred none))) : LeavesInM FW 0 P fn T F ({ target := .collected D, args := #[] } :: ds) .returning w :=
 ⟨by simp, .inl ⟨_, _, rfl, run_takeDeferred hD, h⟩⟩
theorem m_leave2 {D1 D2 : Nat} {p q r : Tmp} {T : TypeId} (hr : fn.results = #[.cell p T, .tmp q, .tmp r]) {g : Nat} (hp : EvR a (.tmp p) (.pointer (some ⟨g, 0, none⟩))) {v u : Value} (hq : EvR a (.tmp q) v) (hu : EvR a (.tmp r) u) {n : Nat} [hT : AggT P T n] (X : St S w0 w L R)
    {cs : List Value} {t : TypeId} (he : ⟨g, cs, t⟩ ∈ L) (hn : cs.length = n) (hd : a.defers = [{ target := .collected D2, args := #[] }, { target := .collected D1, args := #[] }]) (h1 : w.heap[D1]? = some (.deferred (some []))) (h2 : w.heap[D2]? = some (.deferred (some []))) (h12 : D1 ≠ D2)
    (s1 : w0.heap.size ≤ D1) (s2 : w0.heap.size ≤ D2) (n1 : D1 ∉ S) (n2 : D2 ∉ S) (h : ∀ w', St S w0 w' L R → F (.returned (.tuple #[.agg cs.toArray, v, u])) w') : bodyPostM FW 0 P fn F .ret a w := by
 have hp' : a.tmps[p]?.getD undef = .pointer (some ⟨g, 0, none⟩) := by have := hp.eval; simpa [Act.eval] using this
 have hq' : a.tmps[q]?.getD undef = v := by have := hq.eval; simpa [Act.eval] using this
 have hu' : a.tmps[r]?.getD undef = u := by have := hu.eval; simpa [Act.eval] using this
 have h1' : (w.putObj D2 (.deferred none)).heap[D1]? = some (.deferred (some [])) := (World.putObj_heap_other h12).trans h1
 have X2 := (X.putO (.deferred none) s2 h2 rfl n2).putO (.deferred none) s1 h1' rfl n1
 show LeavesInM FW 0 P fn a.tmps F a.defers .returning w
 rw [hd]
 refine leaveD h2 (leaveD h1' ⟨.tuple #[.agg cs.toArray, v, u], ?_, h _ X2⟩)
 simp [results, hr, hp', hq', hu', asAddr, X2.whole (T := T) he hn]
def leavePost (P : Program) (fn : Func) (F : Ending → World → Prop) : Exit → Act → World → Prop
 | .ret, a, w => bodyPostM FW 0 P fn F .ret a w
 | .normal, a, w => bodyPostM FW 0 P fn F .normal a w
 | _, _, _ => False
theorem calls_marks {f : FuncId} {c : Code} {args : Array Value} {R : Ending → World → Prop} (hf : P.funcs[f]? = some fn) (hb : fn.body = some c)
    (h : c.wp P (leavePost P fn R) { tmps := args ++ Array.replicate (fn.ntmps - args.size) undef, defers := [] } w) : Calls P f args w R :=
 (callsIn_wide (n := 0)).1 (callsIn_of_wp_marks hf hb trivial ((wpIn_wide (n := 0)).2 (wp_mono h fun e a w hq => by cases e <;> first | exact hq | exact hq.elim)) rfl)
end
end Wb
namespace Go.Proofs.YtjhmfljlclajnacGreatDoor
open Go.RowKit Wb
set_option maxRecDepth 100000
set_option maxHeartbeats 4000000
instance aggHnd3 : AggT Tryz.prog 38 6 := ⟨⟨_, Tryz.underlying38, rfl⟩, by kernel_rfl⟩
end Go.Proofs.YtjhmfljlclajnacGreatDoor
namespace Go.Proofs.YtjhmfljlclajnacGreatDoor
open Go.RowKit Wb
set_option maxRecDepth 100000
set_option maxHeartbeats 8000000
section
variable {S : List Nat} {w0 w : World} {L LL : List Ent} {RR : List Rd} {g : Nat} {j : Jn} {M : List Ent} {Rj : List Rd}
theorem jr_DiskS (F : JF g j M Rj) (X : St S w0 w LL RR) (hp : LL.Perm (M ++ L)) (hr : ∀ r ∈ Rj, r ∈ RR) {d : Dsk} (hd : j.disk = d) :
    Calls Tryz.prog 15 #[.pointer (some ⟨g, 0, none⟩)] w fun e w' => ∃ a1 c1 a2 c2, e = .returned (.agg #[.slice a1 d.safe.length c1, .slice a2 d.writes.length c2]) ∧ RDisk w' (.agg #[.slice a1 d.safe.length c1, .slice a2 d.writes.length c2]) d ∧ St S w0 w' LL (Rd.of wrC (.slice a2 d.writes.length c2) d.writes :: Rd.of strC (.slice a1 d.safe.length c1) d.safe :: RR) := by
 subst hd
 have X2 : St S w0 w (M ++ L) (Rj ++ RR) := (X.perm hp).rds fun r h => (List.mem_append.1 h).elim (hr r) id
 have hg : goodD j.disk = true := by obtain ⟨v, ds, fs, MD, MU, hm, _⟩ := F; exact (hm.inv.sz hm.sz).dk
 refine (jr_Disk F X2).mono ?_
 rintro e w' ⟨a1, c1, a2, c2, rfl, X3⟩
 refine ⟨a1, c1, a2, c2, rfl, ⟨_, _, rfl, X3.read (.tail _ (.head _)), X3.read (.head _), ?_, ?_⟩, (X3.perm hp.symm).rds fun r h => ?_⟩
 ·have := (goodD_len hg).1; omega
 ·have := (goodD_len hg).2; omega
 ·rcases List.mem_cons.1 h with rfl | h
  ·exact .head _
  rcases List.mem_cons.1 h with rfl | h
  ·exact .tail _ (.head _)
  ·exact .tail _ (.tail _ (List.mem_append_right _ h))
end
end Go.Proofs.YtjhmfljlclajnacGreatDoor
namespace Wb
open Go Go.RowKit
def topT (t : Txn) (b : Int) : Option (Option ByteArray) := match getC t.mt b with | some s => some (some s) | none => match getC t.dt b with | some s => some (some s) | none => if inI t.rev b = true then some none else none
def homeX (j : Jn) (b : Int) : ByteArray := (newestB j.done b).getD (readD j.disk (25 + b))
def readX (j : Jn) (b : Int) : Option ByteArray := match topT j.now b with | some r => r | none => match topT j.sealed b with | some r => r | none => some (homeX j b)
structure VI (j : Jn) : Prop where
 a : ∀ b, isBlk b = true → (turnT j.now (turnT j.sealed (newestB j.done b) b) b).isSome = true → j.roles b = 1
 b : ∀ b, hasB j.now.dt b = true → turnT j.sealed (newestB j.done b) b = none
 c : ∀ b, hasB j.sealed.dt b = true → newestB j.done b = none
structure ChgD (t u : Txn) (b : Int) : Prop where
 mt : ∀ x, x ≠ b → getC u.mt x = getC t.mt x
 dt : ∀ x, x ≠ b → getC u.dt x = getC t.dt x
 rev : ∀ x, x ≠ b → inI u.rev x = inI t.rev x
theorem vi_same {j k : Jn} (v : VI j) (hn : k.now = j.now) (hs : k.sealed = j.sealed) (hd : k.done = j.done) (hr : k.roles = j.roles) : VI k :=
 ⟨by rw [hn, hs, hd, hr]; exact v.a, by rw [hn, hs, hd]; exact v.b, by rw [hs, hd]; exact v.c⟩
def KeepX (j k : Jn) (b : Int) : Prop := (∀ s, readX j b = some s → readX k b = some s) ∧ k.roles b = j.roles b
theorem KeepX.refl (j : Jn) (b : Int) : KeepX j j b := ⟨fun _ h => h, rfl⟩
theorem InvJ.sealed0 {j : Jn} (h : InvJ j) (hw : j.work = 0) : j.sealed = txn0 0 := by
 cases h with
 | idle hd2 _ _ _ hs => exact hs
 | sealing _ _ _ _ _ hw1 => rw [hw] at hw1; exact absurd hw1 (by decide)
 | homing _ _ _ hw1 => rw [hw] at hw1; exact absurd hw1 (by decide)
 | off hj hu => rw [hj]; rfl
 | rising d k hj hu => rw [hj]; rfl
theorem InvJ.now_good {j : Jn} (h : InvJ j) (hd : j.down = false) : goodT j.now = true := by
 cases h with
 | idle _ _ _ hn => exact hn.good
 | sealing _ _ _ _ _ _ _ hn => exact hn.good
 | homing _ _ _ _ _ hn => exact hn.good
 | off hj hu => rw [hj] at hd; cases hd
 | rising d k hj hu => rw [hj] at hd; cases hd
theorem step_up {j : Jn} (h : InvJ j) (hd : j.down = false) : (stepJ j).1.down = false := by
 by_cases hw0 : j.work = 0
 ·unfold stepJ; rw [if_pos hw0]; exact hd
 obtain ⟨s, r, hs, he⟩ := inv_steps h hw0
 have hw3 : j.work ≠ 3 := by
  cases h with
  | idle _ hw => rw [hw]; decide
  | sealing _ _ _ _ _ hw => rw [hw]; decide
  | homing _ _ _ hw => rw [hw]; decide
  | off hj hu => rw [hj] at hw0; exact absurd rfl hw0
  | rising d k hj hu => rw [hj] at hd; cases hd
 unfold stepJ
 rw [if_neg hw0, hs]
 dsimp only
 rw [if_neg (by rw [he]; decide)]
 split
 ·unfold endJ
  dsimp only
  split
  ·exact hd
  split
  ·exact hd
  ·exact hd
 ·exact hd
theorem com_len {r : Ring} {t : Txn} (h : comE r t = 0) : (comL r t).length ≤ 40 := by
 obtain ⟨h1, g, h3, h4, h5, h6⟩ := comE_zero h
 have hd := (lens g).2.1
 have hb : (bodyT t).length ≤ 23 := by omega
 rw [comL_split h]
 unfold comA dataS
 have e1 : (if t.dt = [] then ([] : List Stp) else [flushS]).length ≤ 1 := by split <;> simp
 have e2 : (if bodyT t = [] then ([] : List Stp) else [flushS]).length ≤ 1 := by split <;> simp
 have e3 : (List.zipWith atW (places r.head (bodyT t).length) (bodyT t)).length ≤ (bodyT t).length := by rw [List.length_zipWith]; omega
 simp only [List.length_append, List.length_map, List.length_cons, List.length_nil]
 omega
def remJ (j : Jn) : Nat := if j.work = 0 then 0 else j.steps.length
theorem rem_le {j : Jn} (h : InvJ j) : remJ j ≤ 40 := by
 unfold remJ
 split
 ·exact Nat.zero_le _
 rename_i hw0
 cases h with
 | idle hd hw => exact absurd hw hw0
 | sealing d r us k hd hw hu hn he hq hq2 hr hus hk hdk hst =>
  have := com_len he
  rw [hst, List.length_drop]; omega
 | homing d k hd hw hu hn hs hp ha hk hdk hst hne =>
  have hb := hu.log.bounds
  have := (chk_ok (newestL_copies hu.log.goods) hb.1 hb.2.1).2
  rw [hst, List.length_drop]; omega
 | off hj hu => rw [hj] at hw0; exact absurd rfl hw0
 | rising d k hj hu hk hdk =>
  obtain ⟨h1, h2, h3, h4, h5⟩ := hu.scan
  obtain ⟨b1, b2⟩ := scan_bounds h1
  have := (chk_ok (newestL_copies h2) b1 b2).2
  have e : j.steps = (checkL (newestL (scanF d).txns) (scanF d).at_ (scanF d).next).drop k := by rw [hj]
  rw [e, List.length_drop]; omega
def stepA : Aj := ⟨8, 0, 0, 0, ⟨#[]⟩⟩
theorem do_step {j : Jn} (h : j.acts < 400) : doJ j stepA = stepJ { j with acts := j.acts + 1 } := by
 have hk : stepA.kind = 8 := rfl
 unfold doJ
 rw [if_neg (by omega), if_neg (by omega), if_neg (by omega), if_neg (by omega), if_pos hk]
theorem settle_none {j : Jn} (ha : j.acts < 400) (hw : j.work = 0) : doJ j stepA = ({ j with acts := j.acts + 1 }, ⟨4, 0, ⟨#[]⟩⟩) := by
 rw [do_step ha]
 unfold stepJ
 rw [if_pos (by exact hw)]
 rfl
theorem end_work {j : Jn} : (endJ j).1.work = 0 := by
 unfold endJ
 split
 ·rfl
 split
 ·rfl
 split
 ·rfl
 ·rfl
theorem end_acts {j : Jn} : (endJ j).1.acts = j.acts := by
 unfold endJ
 split
 ·rfl
 split
 ·rfl
 split
 ·rfl
 ·rfl
theorem settle_one {j : Jn} (h : InvJ j) (ha : j.acts < 400) (hw : j.work ≠ 0) : (doJ j stepA).2.code = 0 ∧ remJ (doJ j stepA).1 + 1 = remJ j ∧ (doJ j stepA).1.acts = j.acts + 1 := by
 rw [do_step ha]
 obtain ⟨s, r, hs, he⟩ := inv_steps h hw
 have e0 : remJ j = r.length + 1 := by unfold remJ; rw [if_neg hw, hs]; rfl
 rw [e0]
 unfold stepJ
 rw [if_neg (by exact hw)]
 dsimp only
 rw [hs]
 dsimp only
 rw [if_neg (by rw [he]; decide)]
 split
 ·rename_i hr
  refine ⟨end_code _, ?_, by rw [end_acts]⟩
  unfold remJ
  rw [if_pos end_work, hr]
  rfl
 ·refine ⟨rfl, ?_, rfl⟩
  unfold remJ
  rw [if_neg (by exact hw)]
structure NumQ (j : Jn) : Prop where
 a : j.down = false → j.work ≠ 1 → j.last ≤ j.acts
 b : j.work = 1 → j.last + 1 ≤ j.acts
 c : j.down = true → j.work ≠ 3 → (scanF j.disk).next ≤ j.acts + 1
 e : j.work = 3 → j.found.next ≤ j.acts + 1
theorem NumQ.more {j : Jn} (h : NumQ j) : NumQ { j with acts := j.acts + 1 } :=
 ⟨fun h1 h2 => (by have := h.a h1 h2; show j.last ≤ j.acts + 1; omega), fun h1 => (by have := h.b h1; show j.last + 1 ≤ j.acts + 1; omega), fun h1 h2 => (by have := h.c h1 h2; show (scanF j.disk).next ≤ j.acts + 1 + 1; omega), fun h1 => (by have := h.e h1; show j.found.next ≤ j.acts + 1 + 1; omega)⟩
theorem LogI.next {d : Dsk} {txs : List Txn} {q a : Int} {u : Nat} (h : LogI d txs q a u) : (scanF d).next = q := by rw [h.found]
theorem sq_crash {j : Jn} (x : Int) (h : InvJ j) (q : NumQ j) : NumQ (crashJ j x).1 := by
 unfold crashJ
 split
 rotate_left
 ·exact q
 rename_i hc
 have key : (scanF (crashD j.disk x)).next ≤ j.acts + 1 := by
  cases h with
  | idle hd hw hu hn hs =>
   rw [(hu.log.keep (Left.crash hc)).next]
   have := q.a hd (by omega); omega
  | sealing d r us k hd hw hu hn he hq hq2 hr hus hk hdk hst =>
   have hl := Left.crash hc
   rw [hdk] at hl
   have hg := (goodR_iff r).1 hu.ring
   have := q.b hw
   rcases hu.log.com he rfl (by omega) hq (by omega) (Nat.le_of_lt hk) hl with ⟨h1, _⟩ | ⟨h1, _⟩
   ·rw [← hdk] at h1
    rw [h1.next]; omega
   ·rw [← hdk] at h1
    rw [h1.next]; omega
  | homing d k hd hw hu hn hs hp ha hk hdk hst hne =>
   have hl := Left.crash hc
   rw [hdk] at hl
   have := q.a hd (by omega)
   rcases hu.log.chk (Nat.le_of_lt hk) hl with ⟨h1, _⟩ | ⟨h1, _⟩
   ·rw [← hdk] at h1
    rw [h1.next]; omega
   ·rw [← hdk] at h1
    rw [h1.next]; omega
  | off hj hu =>
   have h2 := q.c (by rw [hj]) (by rw [hj]; exact (show (0 : Int) ≠ 3 by decide))
   obtain ⟨⟨txs, y, a, u, hl, _⟩, _⟩ := hu
   rw [(hl.keep (Left.crash hc)).next]
   rw [hl.next] at h2
   exact h2
  | rising d k hj hu hk hdk =>
   have h2 := q.e (by rw [hj])
   have ef : j.found = scanF d := by rw [hj]
   rw [ef] at h2
   have hl := Left.crash hc
   rw [hdk] at hl
   obtain ⟨⟨txs, y, a, u, hL, _⟩, _⟩ := hu
   rw [hL.next] at h2
   rw [hL.found] at hk hl
   dsimp only at hk hl
   rw [newestL_log] at hk hl
   have e9 : runD d (List.take k (checkL (newestL txs) a y)) = j.disk := by
    rw [hdk, hL.found]
    dsimp only
    rw [newestL_log]
   rcases hL.chk (Nat.le_of_lt hk) hl with ⟨h1, _⟩ | ⟨h1, _⟩
   ·rw [e9] at h1
    rw [h1.next]; exact h2
   ·rw [e9] at h1
    rw [h1.next]; exact h2
 exact ⟨fun h1 => (by cases h1), fun h1 => (by cases h1), fun _ _ => key, fun h1 => (by cases h1)⟩
theorem sq_begin {j : Jn} (h : InvJ j) (q : NumQ j) : NumQ (beginJ j).1 := by
 unfold beginJ
 split
 ·exact q
 rename_i h1
 have hdn : j.down = true := by
  cases hh : j.down with
  | true => rfl
  | false => exact absurd (.inl hh) h1
 have hw0 : j.work = 0 := Decidable.byContradiction fun hh => h1 (.inr hh)
 have hc := q.c hdn (by omega)
 split
 ·exact q
 split
 ·exact ⟨fun h2 => (Bool.false_ne_true (h2.symm.trans hdn)).elim, fun h2 => (by rw [hw0] at h2; cases h2), fun _ _ => hc, fun h2 => (by rw [hw0] at h2; cases h2)⟩
 ·exact ⟨fun h2 => (Bool.false_ne_true (h2.symm.trans hdn)).elim, fun h2 => absurd (show (3 : Int) = 1 from h2) (by decide), fun _ h2 => absurd rfl h2, fun _ => hc⟩
theorem sq_step {j : Jn} (h : InvJ j) (q : NumQ j) : NumQ (stepJ j).1 := by
 by_cases hw0 : j.work = 0
 ·unfold stepJ; rw [if_pos hw0]; exact q
 obtain ⟨s, r, hs, he⟩ := inv_steps h hw0
 unfold stepJ
 rw [if_neg hw0, hs]
 dsimp only
 rw [if_neg (by rw [he]; decide)]
 cases h with
 | idle hd hw => exact absurd hw hw0
 | off hj hu => rw [hj] at hw0; exact absurd rfl hw0
 | sealing d rg us k hd hw hu hn hc hq hq2 hr hus hk hdk hst =>
  have hb := q.b hw
  split
  ·unfold endJ
   dsimp only
   rw [if_pos hw]
   exact ⟨fun _ _ => (by show j.sealed.seq ≤ j.acts; omega), fun h2 => (by cases h2), fun h2 => (Bool.false_ne_true (hd.symm.trans h2)).elim, fun h2 => (by cases h2)⟩
  ·exact ⟨fun _ h2 => absurd hw h2, fun _ => hb, fun h2 => (Bool.false_ne_true (hd.symm.trans h2)).elim, fun h2 => absurd (hw.symm.trans h2) (by decide)⟩
 | homing d k hd hw hu hn hse hp ha hk hdk hst hne =>
  have hb := q.a hd (by omega)
  split
  ·unfold endJ
   dsimp only
   rw [if_neg (by omega), if_pos hw]
   exact ⟨fun _ _ => hb, fun h2 => (by cases h2), fun h2 => (Bool.false_ne_true (hd.symm.trans h2)).elim, fun h2 => (by cases h2)⟩
  ·exact ⟨fun _ _ => hb, fun h2 => absurd (hw.symm.trans h2) (by decide), fun h2 => (Bool.false_ne_true (hd.symm.trans h2)).elim, fun h2 => absurd (hw.symm.trans h2) (by decide)⟩
 | rising d k hj hu hk hdk =>
  have hw3 : j.work = 3 := by rw [hj]
  have hd : j.down = true := by rw [hj]
  have hb := q.e hw3
  split
  ·unfold endJ
   dsimp only
   rw [if_neg (by omega), if_neg (by omega), if_pos hw3]
   exact ⟨fun _ _ => (by show j.found.next - 1 ≤ j.acts; omega), fun h2 => (by cases h2), fun h2 => (by cases h2), fun h2 => (by cases h2)⟩
  ·exact ⟨fun h2 => (Bool.false_ne_true (h2.symm.trans hd)).elim, fun h2 => absurd (hw3.symm.trans h2) (by decide), fun _ h2 => absurd hw3 h2, fun _ => hb⟩
theorem sq_commit {j : Jn} (hd : j.down = false) (q : NumQ j) : NumQ (commitJ { j with acts := j.acts + 1 }).1 := by
 have q1 := q.more
 unfold commitJ
 split
 ·exact q1
 rename_i h1
 have hw0 : j.work = 0 := Decidable.byContradiction fun hh => h1 (.inl hh)
 have hb := q.a hd (by omega)
 split
 ·exact q1
 split
 ·exact q1
 split
 ·exact q1
 ·exact ⟨fun _ h2 => absurd rfl h2, fun _ => (by show j.last + 1 ≤ j.acts + 1; omega), fun h2 => (Bool.false_ne_true (hd.symm.trans h2)).elim, fun h2 => absurd (show (1 : Int) = 3 from h2) (by decide)⟩
theorem sq_check {j : Jn} (hd : j.down = false) (q : NumQ j) : NumQ (checkJ j).1 := by
 unfold checkJ
 split
 ·exact q
 rename_i h1
 have hw0 : j.work = 0 := Decidable.byContradiction fun hh => h1 hh
 have hb := q.a hd (by omega)
 split
 ·exact q
 ·exact ⟨fun _ _ => hb, fun h2 => absurd (show (2 : Int) = 1 from h2) (by decide), fun h2 => (Bool.false_ne_true (hd.symm.trans h2)).elim, fun h2 => absurd (show (2 : Int) = 3 from h2) (by decide)⟩
theorem NumQ.same {j k : Jn} (q : NumQ j) (h1 : k.down = j.down) (h2 : k.work = j.work) (h3 : k.last = j.last) (h4 : k.acts = j.acts) (h5 : k.disk = j.disk) (h6 : k.found = j.found) : NumQ k :=
 ⟨by rw [h1, h2, h3, h4]; exact q.a, by rw [h2, h3, h4]; exact q.b, by rw [h1, h2, h4, h5]; exact q.c, by rw [h2, h4, h6]; exact q.e⟩
theorem sq_change {j : Jn} (a : Aj) (q : NumQ j) : NumQ (changeJ j a).1 := by
 unfold changeJ
 split
 ·exact q.same rfl rfl rfl rfl rfl rfl
 ·exact q
theorem sq_do {j : Jn} (a : Aj) (h : InvJ j) (q : NumQ j) : NumQ (doJ j a).1 := by
 unfold doJ
 have hA := h.acts (j.acts + 1)
 have qA := q.more
 by_cases c0 : 400 ≤ j.acts
 ·rw [if_pos c0]; exact q
 rw [if_neg c0]
 by_cases c1 : a.kind < 1 ∨ 11 < a.kind
 ·rw [if_pos c1]; exact qA
 rw [if_neg c1]
 by_cases c2 : a.kind = 10
 ·rw [if_pos c2]; exact sq_crash a.n hA qA
 rw [if_neg c2]
 by_cases c3 : a.kind = 11
 ·rw [if_pos c3]; exact sq_begin hA qA
 rw [if_neg c3]
 by_cases c4 : a.kind = 8
 ·rw [if_pos c4]; exact sq_step hA qA
 rw [if_neg c4]
 by_cases c5 : j.down = true
 ·rw [if_pos c5]; exact qA
 rw [if_neg c5]
 have hd : j.down = false := by simpa using c5
 by_cases c6 : a.kind = 6
 ·rw [if_pos c6]; exact sq_commit hd q
 rw [if_neg c6]
 by_cases c7 : a.kind = 7
 ·rw [if_pos c7]; exact sq_check (j := { j with acts := j.acts + 1 }) hd qA
 rw [if_neg c7]
 by_cases c8 : a.kind = 9
 ·rw [if_pos c8]; exact qA
 rw [if_neg c8]
 exact sq_change a qA
theorem sq_new : NumQ newJ := ⟨fun _ _ => (show (0 : Int) ≤ 0 by decide), fun h => (by cases h), fun h => (by cases h), fun h => (by cases h)⟩
structure GJ (j : Jn) : Prop where
 inv : InvJ j
 sq : NumQ j
 room : RoomI j
theorem GJ.step {j : Jn} (a : Aj) (h : GJ j) : GJ (doJ j a).1 := ⟨inv_do a h.inv, sq_do a h.inv h.sq, (space a h.inv h.room).1⟩
theorem gj_new : GJ newJ := ⟨inv_new, sq_new, room_new⟩
theorem off_of {j : Jn} (h : InvJ j) (hd : j.down = true) (hw : j.work = 0) : DnI j.disk j.last := by
 cases h with
 | idle hd2 => rw [hd2] at hd; cases hd
 | sealing _ _ _ _ hd2 => rw [hd2] at hd; cases hd
 | homing _ _ hd2 => rw [hd2] at hd; cases hd
 | off hj hu => exact hu
 | rising d k hj hu => rw [hj] at hw; cases hw
def recA : Aj := ⟨11, 0, 0, 0, ⟨#[]⟩⟩
theorem do_rec {j : Jn} (ha : j.acts < 400) : doJ j recA = noJ (beginJ { j with acts := j.acts + 1 }) := by
 have hk : recA.kind = 11 := rfl
 unfold doJ
 rw [if_neg (by omega), if_neg (by omega), if_neg (by omega), if_pos hk]
theorem rec_ok {j : Jn} (h : InvJ j) (ha : j.acts < 400) (hd : j.down = true) (hw : j.work = 0) : (doJ j recA).2 = ⟨0, 0, ⟨#[]⟩⟩ ∧ (doJ j recA).1.work = 3 ∧ (doJ j recA).1.acts = j.acts + 1 := by
 obtain ⟨e1, e2, e3, e4, _⟩ := (off_of h hd hw).scan
 rw [do_rec ha]
 unfold beginJ
 rw [if_neg (fun hh => hh.elim (fun h1 => (Bool.false_ne_true (h1.symm.trans hd))) (fun h1 => h1 hw)), if_neg (fun hh => hh e1), if_neg (fun hh => hh e3)]
 exact ⟨rfl, rfl, rfl⟩
theorem step_now {j : Jn} (h : InvJ j) (hd : j.down = false) : (stepJ j).1.now = j.now := by
 by_cases hw0 : j.work = 0
 ·unfold stepJ; rw [if_pos hw0]
 obtain ⟨s, r, hs, he⟩ := inv_steps h hw0
 have hw3 : j.work ≠ 3 := by
  cases h with
  | idle _ hw => rw [hw]; decide
  | sealing _ _ _ _ _ hw => rw [hw]; decide
  | homing _ _ _ hw => rw [hw]; decide
  | off hj hu => rw [hj] at hw0; exact absurd rfl hw0
  | rising d k hj hu => rw [hj] at hd; cases hd
 unfold stepJ
 rw [if_neg hw0, hs]
 dsimp only
 rw [if_neg (by rw [he]; decide)]
 split
 ·unfold endJ
  dsimp only
  split
  ·rfl
  split
  ·rfl
  ·rfl
 ·rfl
def upI (j : Jn) : Prop := j.down = true → j.work = 3
theorem step_upI {j : Jn} (h : InvJ j) (hu : upI j) : upI (stepJ j).1 := by
 cases hd : j.down with
 | false => intro h2; rw [step_up h hd] at h2; cases h2
 | true =>
  have hw3 := hu hd
  have hw0 : j.work ≠ 0 := by omega
  obtain ⟨s, r, hs, he⟩ := inv_steps h hw0
  intro h2
  unfold stepJ at h2 ⊢
  rw [if_neg hw0, hs] at h2 ⊢
  dsimp only at h2 ⊢
  rw [if_neg (by rw [he]; decide)] at h2 ⊢
  split at h2
  ·rename_i hr
   unfold endJ at h2
   dsimp only at h2
   rw [if_neg (by omega), if_neg (by omega), if_pos hw3] at h2
   cases h2
  ·rename_i hr
   rw [if_neg hr]
   exact hw3
def emptyT (t : Txn) : Prop := t.mt = [] ∧ t.dt = [] ∧ t.rev = []
theorem com_code {j : Jn} (h : InvJ j) (hd : j.down = false) (hr : RoomI j) (hw : j.work = 0) (hop : openB j.now = false) (hs : j.now.seq < 2147483646) :
    ((commitJ j).2.code = 0 ∨ (commitJ j).2.code = 4) ∧ emptyT (commitJ j).1.now ∧ (commitJ j).1.down = false ∧ (commitJ j).1.acts = j.acts := by
 have hce : begunB j.now = true → comE j.ring j.now = 0 := fun hb => by
  cases h with
  | idle hd hw hu hn hs =>
   have g := goodT_of.1 hn.good
   have h1 := hr hb
   rw [asked_ask hn.good] at h1
   obtain ⟨m1, m2⟩ := need_most g
   have hgr := (goodR_iff _).1 hu.ring
   unfold comE
   rw [if_neg (by rw [hu.ring, hn.good, hop]; decide)]
   have e : comN j.now = needN j.now.mt.length j.now.rev.length := rfl
   have h0 : 0 ≤ comN j.now := by have := bodyT_len g; omega
   unfold takeE; rw [if_neg (by rw [hu.ring]; simp; omega), if_neg (by rw [e]; omega)]
  | sealing d r us k hd hw2 => rw [hw] at hw2; cases hw2
  | homing d k hd hw2 => rw [hw] at hw2; cases hw2
  | off hj hu => rw [hj] at hd; cases hd
  | rising d k hj hu hk hdk => rw [hj] at hd; cases hd
 unfold commitJ
 rw [if_neg (fun hh => hh.elim (fun h1 => h1 hw) (fun h1 => by rw [hop] at h1; cases h1))]
 by_cases hn0 : j.now.mt.length + j.now.dt.length + j.now.rev.length = 0
 ·rw [if_pos hn0]
  have e : emptyT j.now := ⟨List.eq_nil_of_length_eq_zero (by omega), List.eq_nil_of_length_eq_zero (by omega), List.eq_nil_of_length_eq_zero (by omega)⟩
  exact ⟨.inr rfl, e, hd, rfl⟩
 ·rw [if_neg hn0, if_neg (by omega), if_neg (fun hh => hh (hce (by unfold begunB; rw [hop]; simp; omega)))]
  exact ⟨.inl rfl, ⟨rfl, rfl, rfl⟩, hd, rfl⟩
theorem chk_code {j : Jn} (hd : j.down = false) (hw : j.work = 0) : ((checkJ j).2 = 0 ∨ (checkJ j).2 = 4) ∧ (checkJ j).1.now = j.now ∧ (checkJ j).1.down = false ∧ (checkJ j).1.acts = j.acts ∧ ((checkJ j).1.work = 2 ∨ ((checkJ j).1.work = 0 ∧ (checkJ j).1.done = [])) := by
 unfold checkJ
 rw [if_neg (fun hh => hh hw)]
 by_cases h0 : j.done.length = 0
 ·rw [if_pos h0]
  exact ⟨.inr rfl, rfl, hd, rfl, .inr ⟨hw, List.eq_nil_of_length_eq_zero h0⟩⟩
 ·rw [if_neg h0]
  exact ⟨.inl rfl, rfl, hd, rfl, .inl rfl⟩
def homeI (j : Jn) : Prop := j.down = false ∧ (j.work = 2 ∨ (j.work = 0 ∧ j.done = []))
theorem step_home {j : Jn} (h : InvJ j) (hi : homeI j) : homeI (stepJ j).1 := by
 obtain ⟨hd, hw⟩ := hi
 rcases hw with hw | ⟨hw, hn⟩
 ·have hw0 : j.work ≠ 0 := by omega
  obtain ⟨s, r, hs, he⟩ := inv_steps h hw0
  have hpd : j.pending = j.done.length := by
   cases h with
   | idle _ hw2 => rw [hw] at hw2; cases hw2
   | sealing _ _ _ _ _ hw2 => rw [hw] at hw2; cases hw2
   | homing _ _ _ _ _ _ _ hp => exact hp
   | off hj hu => rw [hj] at hd; cases hd
   | rising d k hj hu => rw [hj] at hd; cases hd
  unfold stepJ
  rw [if_neg hw0, hs]
  dsimp only
  rw [if_neg (by rw [he]; decide)]
  split
  ·unfold endJ
   dsimp only
   rw [if_neg (by omega), if_pos hw]
   refine ⟨hd, .inr ⟨rfl, ?_⟩⟩
   dsimp only
   rw [hpd, Int.toNat_natCast, List.drop_length]
  ·exact ⟨hd, .inl hw⟩
 ·unfold stepJ
  rw [if_pos hw]
  exact ⟨hd, .inr ⟨hw, hn⟩⟩
theorem settled {j : Jn} (h : InvJ j) (hd : j.down = false) (hw : j.work = 0) (hn : j.done = []) (he : emptyT j.now) :
    j.ring.used = 0 ∧ j.disk.writes = [] ∧ ∀ b, isBlk b = true → readJ j b = ⟨0, j.roles b, readD j.disk (25 + b)⟩ := by
 have hs := h.sealed0 hw
 cases h with
 | idle hd hw hu hnn _ =>
  have hl := hu.len
  rw [hn] at hl
  have hus : j.used = [] := List.eq_nil_of_length_eq_zero hl
  refine ⟨by rw [← hu.sum, hus]; rfl, hu.log.clean, fun b hb => ?_⟩
  unfold readJ firstC
  rw [if_pos hb, he.1, he.2.1, hs, hn]
  have e0 : getC (newestL []) b = none := newestL_get (fun t ht => by cases ht) b
  rw [e0]
  rfl
 | sealing d r us k hd hw2 => rw [hw] at hw2; cases hw2
 | homing d k hd hw2 => rw [hw] at hw2; cases hw2
 | off hj hu => rw [hj] at hd; cases hd
 | rising d k hj hu hk hdk => rw [hj] at hd; cases hd
theorem GJ.seq {j : Jn} (h : GJ j) (hd : j.down = false) (hw : j.work = 0) : j.now.seq ≤ j.acts + 1 := by
 have := h.sq.a hd (by omega)
 cases h.inv with
 | idle hd hw hu hn hs => have := hn.seq; omega
 | sealing d r us k hd hw2 => rw [hw] at hw2; cases hw2
 | homing d k hd hw2 => rw [hw] at hw2; cases hw2
 | off hj hu => rw [hj] at hd; cases hd
 | rising d k hj hu hk hdk => rw [hj] at hd; cases hd
def stopAj (h : Int) : Aj := ⟨5, h, 0, 0, ⟨#[]⟩⟩
theorem do_stop {j : Jn} {h : Int} (ha : j.acts < 400) (hd : j.down = false) : doJ j (stopAj h) = noJ (changeJ { j with acts := j.acts + 1 } (stopAj h)) := by
 have hk : (stopAj h).kind = 5 := rfl
 unfold doJ
 rw [if_neg (by omega), if_neg (by omega), if_neg (by omega), if_neg (by omega), if_neg (by omega), if_neg (by rw [hd]; decide), if_neg (by omega), if_neg (by omega), if_neg (by omega)]
theorem stop_off {j : Jn} {h : Int} (ha : j.acts < 400) (hd : j.down = false) (hg : goodT j.now = true) (hh : 0 ≤ h ∧ h ≤ 2) :
    (doJ j (stopAj h)).1.down = false ∧ (doJ j (stopAj h)).1.work = j.work ∧ (doJ j (stopAj h)).1.acts = j.acts + 1 ∧ (getH (doJ j (stopAj h)).1.now h).on = false ∧ ∀ k, 0 ≤ k ∧ k ≤ 2 → (getH j.now k).on = false → (getH (doJ j (stopAj h)).1.now k).on = false := by
 rw [do_stop ha hd]
 have e1 : altE { j with acts := j.acts + 1 } (stopAj h) = stopE j.now h := by unfold altE stopAj; rfl
 have e2 : altT { j with acts := j.acts + 1 } (stopAj h) = stopT j.now h := by unfold altT stopAj; rfl
 by_cases he : stopE j.now h = 0
 ·have e3 : (noJ (changeJ { j with acts := j.acts + 1 } (stopAj h))).1.now = setH j.now h hnd0 := by
    show (changeJ _ _).1.now = _
    unfold changeJ
    rw [if_pos (by rw [e1]; exact he)]
    dsimp only
    rw [e2]
    unfold stopT
    rw [if_pos he]
  refine ⟨?_, ?_, ?_, ?_, fun k hk ho => ?_⟩
  ·show (changeJ _ _).1.down = false
   unfold changeJ; split <;> exact hd
  ·show (changeJ _ _).1.work = j.work
   unfold changeJ; split <;> rfl
  ·show (changeJ _ _).1.acts = j.acts + 1
   unfold changeJ; split <;> rfl
  ·rw [e3]
   have h3 : h = 0 ∨ h = 1 ∨ h = 2 := by omega
   rcases h3 with rfl | rfl | rfl <;> rfl
  ·rw [e3]
   have h3 : h = 0 ∨ h = 1 ∨ h = 2 := by omega
   have k3 : k = 0 ∨ k = 1 ∨ k = 2 := by omega
   rcases h3 with rfl | rfl | rfl <;> rcases k3 with rfl | rfl | rfl <;> first | exact ho | rfl
 ·have e3 : noJ (changeJ { j with acts := j.acts + 1 } (stopAj h)) = ({ j with acts := j.acts + 1 }, noR (stopE j.now h)) := by
    unfold changeJ
    rw [if_neg (by rw [e1]; exact he), e1]
    rfl
  rw [e3]
  refine ⟨hd, rfl, rfl, ?_, fun k _ ho => ho⟩
  show (getH j.now h).on = false
  unfold stopE at he
  rw [if_neg (by rw [hg]; decide)] at he
  cases ho : (getH j.now h).on with
  | false => rfl
  | true =>
   exfalso
   apply he
   rw [if_neg]
   intro hx
   rcases hx with hx | hx
   ·exact hx hh
   ·rw [ho] at hx; cases hx
theorem open_off {t : Txn} (h0 : (getH t 0).on = false) (h1 : (getH t 1).on = false) (h2 : (getH t 2).on = false) : openB t = false := by
 unfold openB
 have e0 : t.h0.on = false := h0
 have e1 : t.h1.on = false := h1
 have e2 : t.h2.on = false := h2
 rw [e0, e1, e2]; rfl
structure TR (j : Jn) (f : Int → Option ByteArray) : Prop where
 inv : InvJ j
 vi : VI j
 down : j.down = true → ∀ b, f b = none
 has : ∀ b x, f b = some x → isBlk b = true ∧ readX j b = some x ∧ j.roles b ≠ 0
theorem TR.acts {j : Jn} {f : Int → Option ByteArray} (h : TR j f) (n : Int) : TR { j with acts := n } f :=
 ⟨h.inv.acts n, vi_same h.vi rfl rfl rfl rfl, h.down, h.has⟩
def rdA (b : Int) : Aj := ⟨9, 0, b, 0, ⟨#[]⟩⟩
theorem isBlk_nat {n : Nat} (h : n < 12) : isBlk (n : Int) = true := by unfold isBlk; simp; omega
theorem m_fieldV {P : Program} {ops : Array Oper} {rest : List Oper} {o : Oper} {a : Act} {Q : Exit → Act → World → Prop} {w : World} {T : TypeId} {x : Operand} {k : Nat} {vs : Array Value} {v : Value} (hw : Region.wanted o (yielded ops a.tmps) = true) (ho : o.op = .field T x k) (hx : a.eval x = .agg vs) (hv : ∀ w, (Instr.field T (.agg vs) k).run P w = .ok v w)
    (h : wpList P ops Q rest (a.put o.dst v) w) : wpList P ops Q (o :: rest) a w :=
 BigFrame.wpList_want hw fun K hK => by
  unfold Oper.wp execOp
  simp only [ho, hx, hv, Sem.run_bind, Sem.run_pure, Result.andThen_ok]
  exact hK _ _ h
theorem St.gsC {S : List Nat} {w0 w : World} {a : Nat} {ca : List Value} {ta : TypeId} {L : List Ent} {R : List Rd} (_ : St S w0 w (⟨a, ca, ta⟩ :: L) R) : ∃ x1, x1 = a := ⟨_, rfl⟩
theorem St.rdName {S : List Nat} {w0 w : World} {L : List Ent} {A R : List Rd} (_ : St S w0 w L (A ++ R)) : ∃ R', R' = R := ⟨_, rfl⟩
theorem acts_at_eq3 (l : List Aj) : ∀ k, k ≤ l.length → k ≤ 400 → (jAt l k).acts = k := by
 intro k
 induction k with
 | zero => intro _ _; rfl
 | succ k ih =>
  intro h1 h2
  have h := ih (by omega) (by omega)
  rw [jAt_succ (by omega), acts_do, if_neg (by omega), h]
  omega
theorem gj_at (l : List Aj) : ∀ k, GJ (jAt l k) := by
 intro k
 unfold jAt
 generalize hj : newJ = j
 have h0 : GJ j := by rw [← hj]; exact gj_new
 clear hj
 induction l.take k generalizing j with
 | nil => exact h0
 | cons a r ih => exact ih _ (h0.step a)
theorem pr_of {Pr : Jn → Prop} (hc : ∀ j n, Pr j → Pr { j with acts := n }) (hs : ∀ j, InvJ j → Pr j → Pr (stepJ j).1) : ∀ j, GJ j → Pr j → Pr (doJ j stepA).1 := by
 intro j hG hp
 by_cases ha : j.acts < 400
 ·rw [do_step ha]
  exact hs _ (hG.inv.acts _) (hc _ _ hp)
 ·rw [ended stepA (by omega)]
  exact hp
def P1 (j : Jn) : Prop := j.down = false ∧ emptyT j.now
def P2 (j : Jn) : Prop := homeI j ∧ emptyT j.now
theorem p0_step : ∀ j, GJ j → upI j → upI (doJ j stepA).1 := pr_of (fun _ _ h => h) (fun _ h hp => step_upI h hp)
theorem p1_step : ∀ j, GJ j → P1 j → P1 (doJ j stepA).1 := pr_of (fun _ _ h => h) (fun _ h hp => ⟨step_up h hp.1, by rw [step_now h hp.1]; exact hp.2⟩)
theorem p2_step : ∀ j, GJ j → P2 j → P2 (doJ j stepA).1 := pr_of (fun _ _ h => h) (fun _ h hp => ⟨step_home h hp.1, by rw [step_now h hp.1.1]; exact hp.2⟩)
def comAj : Aj := ⟨6, 0, 0, 0, ⟨#[]⟩⟩
def chkAj : Aj := ⟨7, 0, 0, 0, ⟨#[]⟩⟩
theorem do_com {j : Jn} (ha : j.acts < 400) (hd : j.down = false) : doJ j comAj = commitJ { j with acts := j.acts + 1 } := by
 have hk : comAj.kind = 6 := rfl
 unfold doJ
 rw [if_neg (by omega), if_neg (by omega), if_neg (by omega), if_neg (by omega), if_neg (by omega), if_neg (by rw [hd]; decide), if_pos hk]
theorem do_chk {j : Jn} (ha : j.acts < 400) (hd : j.down = false) : doJ j chkAj = noJ (checkJ { j with acts := j.acts + 1 }) := by
 have hk : chkAj.kind = 7 := rfl
 unfold doJ
 rw [if_neg (by omega), if_neg (by omega), if_neg (by omega), if_neg (by omega), if_neg (by omega), if_neg (by rw [hd]; decide), if_neg (by omega), if_pos hk]
theorem do_rd {j : Jn} (ha : j.acts < 400) (hd : j.down = false) (b : Int) : (doJ j (rdA b)).1 = { j with acts := j.acts + 1 } ∧ (doJ j (rdA b)).2 = readJ { j with acts := j.acts + 1 } b := by
 have hk : (rdA b).kind = 9 := rfl
 have e : doJ j (rdA b) = ({ j with acts := j.acts + 1 }, readJ { j with acts := j.acts + 1 } (rdA b).b) := by
  unfold doJ
  rw [if_neg (by omega), if_neg (by omega), if_neg (by omega), if_neg (by omega), if_neg (by omega), if_neg (by rw [hd]; decide), if_neg (by omega), if_neg (by omega), if_pos hk]
 rw [e]
 exact ⟨rfl, rfl⟩
end Wb
namespace Go.Proofs.YtjhmfljlclajnacGreatDoor
open Go.RowKit Wb
set_option maxRecDepth 100000
set_option maxHeartbeats 16000000
instance : OneT Tryz.prog 24 := ⟨⟨_, Tryz.underlying24, rfl⟩, by kernel_rfl⟩
instance : ZeroT Tryz.prog 24 [.pointer none] := ⟨by kernel_rfl⟩
theorem st_steps (K : JK) (Pr : Jn → Prop) (hPr : ∀ j, GJ j → Pr j → Pr (doJ j stepA).1) {S : List Nat} {w0 w : World} {L : List Ent} {R : List Rd} {gC gj : Nat} {j : Jn} {M : List Ent} {Rj : List Rd} (hG : GJ j) (hp : Pr j) (h0 : 0 ≤ j.acts) (ha : j.acts + 41 ≤ 400) (F : JF gj j M Rj) (hFm : flR 0 ∈ R) (X : St S w0 w (⟨gC, [.pointer (some ⟨gj, 0, none⟩)], 24⟩ :: (M ++ L)) (Rj ++ R)) :
    Calls Tryz.prog 25 #[.pointer (some ⟨gC, 0, none⟩)] w fun e w' => ∃ j' M' Rj', e = .returned (.bool true) ∧ GJ j' ∧ Pr j' ∧ j'.work = 0 ∧ j.acts ≤ j'.acts ∧ j'.acts ≤ j.acts + 41 ∧ JF gj j' M' Rj' ∧ St S w0 w' (⟨gC, [.pointer (some ⟨gj, 0, none⟩)], 24⟩ :: (M' ++ L)) (Rj' ++ R) := by
 have hrem := rem_le hG.inv
 obtain ⟨PP, hPP⟩ : ∃ PP : World → Prop, ∀ w', PP w' ↔ (∃ j' M' Rj', GJ j' ∧ Pr j' ∧ j'.work = 0 ∧ j.acts ≤ j'.acts ∧ j'.acts ≤ j.acts + 41 ∧ JF gj j' M' Rj' ∧ St S w0 w' (⟨gC, [.pointer (some ⟨gj, 0, none⟩)], 24⟩ :: (M' ++ L)) (Rj' ++ R)) := ⟨_, fun _ => Iff.rfl⟩
 refine Calls.mono (R := fun e w' => e = .returned (.bool true) ∧ PP w') ?_ (fun e w' ⟨he, hp⟩ => by
  obtain ⟨j', M', Rj', h⟩ := (hPP w').1 hp
  exact ⟨j', M', Rj', he, h⟩)
 have fin := hid (fun w' h => (hPP w').2 h)
 clear hPP
 replace hPr := hid hPr; replace hFm := hid hFm
 go_enter Tryz.func25, Tryz.ntmps25
 go_wp2
 go_loopw [2] (fun i wr => ∃ (n : Nat) (j1 : Jn) (M : List Ent) (Rj : List Rd), n + remJ j1 ≤ 40 ∧ i = .int .i64 (n : Int) ∧ GJ j1 ∧ Pr j1 ∧ j1.acts = j.acts + n ∧ JF gj j1 M Rj ∧ St S w0 wr (⟨gC, [.pointer (some ⟨gj, 0, none⟩)], 24⟩ :: (M ++ L)) (Rj ++ R)) (fun i _ => 60 - (intOf i).toNat)
 case atStart => exact ⟨0, j, M, Rj, by omega, rfl, hG, hp, by omega, F, X⟩
 case round =>
  clear X F hG hp hrem
  obtain ⟨n, j1, M, Rj, hn, rfl, hG, hp, hac, F, X⟩ := hrel
  have hl : (n : Int) < 60 := by omega
  by_cases hw : j1.work = 0
  ·have e1 := settle_none (j := j1) (by omega) hw
   have hD := jr_DoA K F (X.perm (perm1J _ _ _)) hFm.out stepA (Nat.zero_le _) (show (0 : Int) ≤ 9223372036854775807 by decide) (by omega) [.int .i64 8, .int .i64 0, .int .i64 0, .int .i64 0, .string ⟨#[]⟩] rfl (c := 4) (n := 0) (t := ⟨#[]⟩) (by rw [e1])
   have hG2 := hG.step stepA
   have hp2 := hPr.out _ hG hp
   rw [e1] at hD hG2 hp2
   replace hD := hid hD; replace hG2 := hid hG2; replace hp2 := hid hp2; replace hG := hid hG; replace hp := hid hp; replace hac := hid hac; replace hw := hid hw
   clear e1
   go_wp2_with (first
    | go_skip
    | (refine m_fieldV (v := .int .i64 4) rfl rfl rfl (fun _ => by kernel_rfl) ?_; (simp only [Act.put, zA, zB, zC, zD, zE, zF, zG, Nat.reduceAdd]))
    | (refine ZyL ?_) | (refine ZyS ?_; clear X; intro w X) | (refine ZyA ?_; clear X; intro g w X)
    | (go_at_call 11; go_loud ((with_reducible refine (hD.out).mono ?_); rintro e w1 ⟨M3, R3, rfl, F3, X2⟩; replace X := X2.perm (perm1J _ _ _).symm; clear X2)))
   go_ret
   exact ⟨rfl, fin.out _ ⟨_, M3, R3, hG2.out, hp2.out, hw.out, by have := hac.out; show j.acts ≤ j1.acts + 1; omega, by have := hac.out; show j1.acts + 1 ≤ j.acts + 41; omega, F3, X⟩⟩
  ·obtain ⟨s1, s2, s3⟩ := settle_one hG.inv (by omega) hw
   have hD := jr_DoA K F (X.perm (perm1J _ _ _)) hFm.out stepA (Nat.zero_le _) (show (0 : Int) ≤ 9223372036854775807 by decide) (by omega) [.int .i64 8, .int .i64 0, .int .i64 0, .int .i64 0, .string ⟨#[]⟩] rfl (c := 0) (n := (doJ j1 stepA).2.n) (t := (doJ j1 stepA).2.text) (rep_code s1)
   have hG2 := hG.step stepA
   have hp2 := hPr.out _ hG hp
   have hwn : IntKind.i64.wrap ((n : Int) + 1) = (n : Int) + 1 := IntWalk.i64_in _ (by omega)
   generalize (doJ j1 stepA).2.n = rn, (doJ j1 stepA).2.text = rt at hD
   generalize (doJ j1 stepA).1 = j2 at *
   replace hD := hid hD; replace hG2 := hid hG2; replace hp2 := hid hp2; replace hG := hid hG; replace hp := hid hp; replace hac := hid hac; replace hw := hid hw; replace s1 := hid s1; replace s2 := hid s2; replace s3 := hid s3
   go_wp2_with (first
    | go_skip
    | (refine m_fieldV (v := .int .i64 0) rfl rfl rfl (fun _ => by kernel_rfl) ?_; (simp only [Act.put, zA, zB, zC, zD, zE, zF, zG, Nat.reduceAdd]))
    | (refine ZyL ?_) | (refine ZyS ?_; clear X; intro w X) | (refine ZyA ?_; clear X; intro g w X)
    | (go_at_call 11; go_loud ((with_reducible refine (hD.out).mono ?_); rintro e w1 ⟨M3, R3, rfl, F3, X2⟩; replace X := X2.perm (perm1J _ _ _).symm; clear X2)))
   go_roundw
   case rel => exact ⟨n + 1, j2, M3, R3, by have := s2.out; omega, by go_num, hG2.out, hp2.out, by have := s3.out; have := hac.out; omega, F3, X⟩
   case measure => simp [intOf]; omega
theorem top_home (K : JK) {S : List Nat} {w0 w : World} {L LL : List Ent} {RR : List Rd} {g : Nat} {j : Jn} {M : List Ent} {Rj : List Rd} (F : JF g j M Rj) (X : St S w0 w LL RR) (hp : LL.Perm (M ++ L)) (hr : ∀ r ∈ Rj, r ∈ RR) {b : Int} (hb : isBlk b = true) :
    Calls Tryz.prog 26 #[.pointer (some ⟨g, 0, none⟩), .int .i64 b] w fun e w' => e = .returned (.string (readD j.disk (25 + b))) ∧ St S w0 w' LL RR := by
 have hDk := hid (jr_DiskS F X hp hr (d := j.disk) rfl)
 have hRe := hid (fun v w h => K.read j.disk (25 + b) v w h)
 have hwb : IntKind.i64.wrap (25 + b) = 25 + b := by
  unfold isBlk at hb
  have := of_decide_eq_true hb
  exact IntWalk.i64_in _ (by omega)
 generalize readD j.disk (25 + b) = T at *
 generalize readE j.disk (25 + b) = eT at *
 go_enter Tryz.func26, Tryz.ntmps26
 go_wp2_with (first
  | (refine ZyL ?_) | (refine ZyS ?_; clear X; intro w X) | (refine ZyA ?_; clear X; intro g w X)
  | (go_at_call 15; go_loud ((with_reducible refine (hDk.out).mono ?_); rintro e w1 ⟨a1, c1, a2, c2, rfl, hRD, X2⟩; replace X := X2; clear X2))
  | (go_at_call 67; go_loud ((with_reducible refine (hRe.out _ _ hRD).mono ?_); rintro e w1 ⟨rfl, hb1⟩; replace X := X.call hb1; clear hb1)))
 go_ret
 exact ⟨rfl, X.rds (fun r h => .tail _ (.tail _ h))⟩
theorem Zst4 {A : Prop} (h : A := by
 have hdn : J8.done = [] := by
  rcases hp8.1.2 with h | h
  ·exact absurd (h.symm.trans hw8) (by decide)
  ·exact h.2
 have hd8 := hp8.1.1
 obtain ⟨t1, t2, t3⟩ := settled hG8.inv hd8 hw8 hdn hp8.2
 have hR := jr_Ring F8 (X.perm (perm1J _ _ _))
 unfold Ring.val at hR
 rw [hd8, t1] at hR
 have hwl : J8.disk.writes.length = 0 := by rw [t2]; rfl
 have hDk : ∀ (w : World) (x : Ent), St [] w0 w (x :: ⟨gC, [.pointer (some ⟨gj, 0, none⟩)], 24⟩ :: (M8 ++ [])) (R8 ++ RR) → Calls Tryz.prog 15 #[.pointer (some ⟨gj, 0, none⟩)] w fun e w' => ∃ a1 c1 a2 c2, e = .returned (.agg #[.slice a1 J8.disk.safe.length c1, .slice a2 0 c2]) ∧ St [] w0 w' (x :: ⟨gC, [.pointer (some ⟨gj, 0, none⟩)], 24⟩ :: (M8 ++ [])) (R8 ++ RR) := fun w x Y => (jr_DiskS F8 Y (perm2J _ _ _ _) (fun r h => List.mem_append_left _ h) (d := J8.disk) rfl).mono fun e w' hh => by
  obtain ⟨a1, c1, a2, c2, he, _, X2⟩ := hh
  rw [hwl] at he
  exact ⟨a1, c1, a2, c2, he, X2.rds (fun r h => .tail _ (.tail _ h))⟩
 replace hDk := hid hDk
 have hfl : ∀ (a1 : Option Addr) (c1 : Nat) (a2 : Option Addr) (c2 : Nat) (w : World), (Instr.field 46 (.agg #[.slice a1 J8.disk.safe.length c1, .slice a2 0 c2]) 1).run Tryz.prog w = .ok (.slice a2 0 c2) w := fun _ _ _ _ _ => by kernel_rfl
 replace hR := hid hR
 replace hp8 := hid hp8; replace hG8 := hid hG8; replace hw8 := hid hw8; replace hd8 := hid hd8; replace hdn := hid hdn; replace t1 := hid t1; replace t2 := hid t2; replace t3 := hid t3; replace hwl := hid hwl
 go_upto_region 25 with (first
  | (refine ZyL ?_) | (refine ZyS ?_; clear X; intro w X) | (refine ZyA ?_; clear X; intro g w X)
  | (go_at_call 10; go_loud ((with_reducible refine (hR.out).mono ?_); rintro e w1 ⟨rfl, X2⟩; replace X := X2.perm (perm1J _ _ _).symm; clear X2)))
 clear hR
 obtain ⟨gr, rfl⟩ := X.gsC
 have hDk2 := hid (hDk.out _ _ X)
 clear hDk
 go_wp2_with (first
  | go_skip
  | (refine ZyL ?_) | (refine ZyS ?_; clear X; intro w X) | (refine ZyA ?_; clear X; intro g w X)
  | (go_at_call 15; go_loud ((with_reducible refine (hDk2.out).mono ?_); rintro e w1 ⟨a1, c1, a2, c2, rfl, X2⟩; replace X := X2; clear X2)))
 clear hDk2 hfl
 replace X := X.sub (.cons _ (List.Sublist.refl _))
 go_loopw [15] (fun i wr => ∃ (n : Nat) (M : List Ent) (Rj : List Rd), n ≤ 12 ∧ i = .int .i64 (n : Int) ∧ JF gj { J8 with acts := J8.acts + n } M Rj ∧ St [] w0 wr (⟨gC, [.pointer (some ⟨gj, 0, none⟩)], 24⟩ :: (M ++ [])) (Rj ++ RR)) (fun i _ => 12 - (intOf i).toNat)
 case atStart => exact ⟨0, M8, R8, Nat.zero_le _, rfl, by rw [Int.natCast_zero, Int.add_zero]; exact F8, X⟩
 case round =>
  clear X F8
  obtain ⟨n, M, Rj, hn, rfl, F, X⟩ := hrel
  by_cases hlt : n < 12
  ·have hb := isBlk_nat hlt
   obtain ⟨e1, e2⟩ := do_rd (j := { J8 with acts := J8.acts + n }) (show J8.acts + n < 400 by have := hb8.2; omega) hd8.out n
   have e3 : (doJ { J8 with acts := J8.acts + n } (rdA n)).2 = ⟨0, J8.roles n, readD J8.disk (25 + (n : Int))⟩ := e2.trans (t3.out _ hb)
   have hD := jr_DoA K F (X.perm (perm1J _ _ _)) hFm.out (rdA n) (Nat.zero_le _) (show (0 : Int) ≤ 9223372036854775807 by decide) (show (0 : Int) ≤ J8.acts + n by have := hb8.1; omega) [.int .i64 9, .int .i64 0, .int .i64 (n : Int), .int .i64 0, .string ⟨#[]⟩] rfl (c := 0) (n := J8.roles n) (t := readD J8.disk (25 + (n : Int))) (by rw [e3])
   rw [e1] at hD
   have hHm := hid (fun (w : World) (x : Ent) (M : List Ent) (Rj : List Rd) (F : JF gj { J8 with acts := J8.acts + n + 1 } M Rj) (Y : St [] w0 w (x :: ⟨gC, [.pointer (some ⟨gj, 0, none⟩)], 24⟩ :: (M ++ [])) (Rj ++ RR)) => top_home K F Y (perm2J _ _ _ _) (fun r h => List.mem_append_left _ h) hb)
   have hwn : IntKind.i64.wrap ((n : Int) + 1) = (n : Int) + 1 := IntWalk.i64_in _ (by omega)
   have hl3 : (n : Int) < 12 := by omega
   clear e1 e2 e3 F
   replace hb := hid hb
   have tx1 : ((readD J8.disk (25 + (n : Int))).toList != (readD J8.disk (25 + (n : Int))).toList) = false := by simp
   generalize readD J8.disk (25 + (n : Int)) = tx at *
   generalize J8.roles n = rl at *
   replace hD := hid hD
   go_upto_region 31 with (first
    | (refine ZyL ?_) | (refine ZyS ?_; clear X; intro w X) | (refine ZyA ?_; clear X; intro g w X)
    | (go_at_call 11; go_loud ((with_reducible refine (hD.out).mono ?_); rintro e w1 ⟨M3, R3, rfl, F3, X2⟩; replace X := X2.perm (perm1J _ _ _).symm; clear X2)))
   clear hD
   obtain ⟨gx, rfl⟩ := X.gsC
   (refine q_startS 2 [] [8] [1, 5, 6] [0, 1, 2, 3, 4, 5, 6, 7, 8, 9, 10] X ?_; clear X; intro hQ X hL; simp only [zF, zG] at hL; simp only [zF, zG])
   (refine Zf ?_)
   (refine Zl ?_)
   (refine Zg ?_)
   (refine Zm ?_)
   (refine Zf ?_)
   (refine Zl ?_)
   (refine Zl ?_)
   (refine Zm ?_)
   (refine q_callS 26 Tryz.func26 (hHm.out _ _ _ _ F3 X) ?_; rintro e w1 ⟨rfl, X2⟩; replace X := X2; clear X2; refine Zce ?_; clear hL; intro hL)
   (refine Zg ?_)
   (refine Zg ?_)
   refine q_nil ?_
   go_wp2
   go_roundw
   case rel => exact ⟨n + 1, M3, R3, by omega, by go_num, by rw [Int.natCast_add, ← Int.add_assoc]; exact F3, X.sub (.cons _ (List.Sublist.refl _))⟩
   case measure => simp [intOf]; omega
  ·have hl3 : ¬ (n : Int) < 12 := by omega
   go_wp2_with (first
    | (refine ZyL ?_) | (refine ZyS ?_; clear X; intro w X) | (refine ZyA ?_; clear X; intro g w X))
   go_ret
   exact ⟨rfl, X.below⟩) : A := h
theorem Zst3 {A : Prop} (h : A := by
 have e := do_chk (j := J6) (by omega) hp6.1
 obtain ⟨c1, c2, c3, c4, c5⟩ := chk_code (j := { J6 with acts := J6.acts + 1 }) hp6.1 hw6
 have c1' : (doJ J6 chkAj).2.code = 0 ∨ (doJ J6 chkAj).2.code = 4 := by rw [e]; exact c1
 have hp7 : P2 (doJ J6 chkAj).1 := ⟨⟨by rw [e]; exact c3, by rw [e]; exact c5⟩, by rw [e]; show emptyT (checkJ _).1.now; rw [c2]; exact hp6.2⟩
 have ha7 : (doJ J6 chkAj).1.acts = J6.acts + 1 := by rw [e]; exact c4
 have hD := jr_DoA K F6 (X.perm (perm1J _ _ _)) hFm.out chkAj (Nat.zero_le _) (show (0 : Int) ≤ 9223372036854775807 by decide) hb6.1 [.int .i64 7, .int .i64 0, .int .i64 0, .int .i64 0, .string ⟨#[]⟩] rfl (c := (doJ J6 chkAj).2.code) (n := (doJ J6 chkAj).2.n) (t := (doJ J6 chkAj).2.text) rfl
 have hG7 := hG6.step chkAj
 clear e c1 c2 c3 c4 c5
 generalize (doJ J6 chkAj).2.code = cc, (doJ J6 chkAj).2.n = cn, (doJ J6 chkAj).2.text = ct at *
 generalize (doJ J6 chkAj).1 = J7 at *
 have hS2 := hid (fun (w : World) (M : List Ent) (Rj : List Rd) (F : JF gj J7 M Rj) (X : St [] w0 w (⟨gC, [.pointer (some ⟨gj, 0, none⟩)], 24⟩ :: (M ++ [])) (Rj ++ RR)) => st_steps K P2 p2_step hG7 hp7 (by omega) (by omega) F hFm.out X)
 have hb7 := hid (And.intro hb6 ha7)
 replace hD := hid hD; replace hw6 := hid hw6; replace hp6 := hid hp6; replace hG6 := hid hG6; replace hp7 := hid hp7; replace hG7 := hid hG7
 clear ha7 hb6
 go_upto_region 22 with (first
  | (refine m_fieldV (v := .int .i64 cc) rfl rfl rfl (fun _ => by kernel_rfl) ?_; (simp only [Act.put, zA, zB, zC, zD, zE, zF, zG, Nat.reduceAdd]))
  | (refine ZyL ?_) | (refine ZyS ?_; clear X; intro w X) | (refine ZyA ?_; clear X; intro g w X)
  | (go_at_call 11; go_loud ((with_reducible refine (hD.out).mono ?_); rintro e w1 ⟨M2, R2, rfl, F2, X2⟩; replace X := X2.perm (perm1J _ _ _).symm; clear X2)))
 go_cut [11, 87] (fun s11 s87 wx => s87 = .bool false ∧ ∃ J8 M8 R8, GJ J8 ∧ P2 J8 ∧ J8.work = 0 ∧ J7.acts ≤ J8.acts ∧ J8.acts ≤ J7.acts + 41 ∧ JF gj J8 M8 R8 ∧ St [] w0 wx (⟨gC, [.pointer (some ⟨gj, 0, none⟩)], 24⟩ :: (M8 ++ [])) (R8 ++ RR))
 case first =>
  rcases c1' with rfl | rfl
  all_goals
   go_wp2_with (first
    | go_skip
    | (refine ZyL ?_) | (refine ZyS ?_; clear X; intro w X) | (refine ZyA ?_; clear X; intro g w X)
    | (go_at_call 25; go_loud ((with_reducible refine (hS2.out _ _ _ F2 X).mono ?_); rintro e w1 ⟨J8, M8, R8, rfl, hG8, hp8, hw8, b1, b2, F8, X2⟩; replace X := X2; clear X2)))
   go_meet
   exact ⟨rfl, J8, M8, R8, hG8, hp8, hw8, b1, b2, F8, X⟩
 case rest =>
  clear X F2 hD hS2 c1'
  obtain ⟨rfl, J8, M8, R8, hG8, hp8, hw8, b1, b2, F8, X⟩ := hcut
  have hb8 : 0 ≤ J8.acts ∧ J8.acts ≤ 300 := by have := hb7.out; omega
  exact Zst4) : A := h
theorem Zst2 {A : Prop} (h : A := by
 go_wp2
 go_loopw [9, 50] (fun _ i wr => ∃ (n : Nat) (J : Jn) (M : List Ent) (Rj : List Rd), n ≤ 3 ∧ i = .int .i64 (n : Int) ∧ GJ J ∧ J.down = false ∧ J.work = 0 ∧ (0 ≤ J.acts ∧ J.acts ≤ 183 + n) ∧ (∀ k : Int, 0 ≤ k → k < n → (getH J.now k).on = false) ∧ JF gj J M Rj ∧ St [] w0 wr (⟨gC, [.pointer (some ⟨gj, 0, none⟩)], 24⟩ :: (M ++ [])) (Rj ++ RR)) (fun _ i _ => 3 - (intOf i).toNat)
 case atStart => exact ⟨0, _, _, _, Nat.zero_le _, rfl, hG3, hd3, hw3, by omega, fun k h1 h2 => by omega, F3, X⟩
 case round =>
  clear X F3 hG3 hd3 hw3 hb3
  obtain ⟨n, J, M, Rj, hn, rfl, hG, hd, hw, hb, hof, F, X⟩ := hrel
  by_cases hlt : n < 3
  ·obtain ⟨s1, s2, s3, s4, s5⟩ := stop_off (j := J) (h := (n : Int)) (by omega) hd (hG.inv.now_good hd) (by omega)
   have hD := jr_DoA K F (X.perm (perm1J _ _ _)) hFm.out (stopAj n) (Nat.zero_le _) (show (0 : Int) ≤ 9223372036854775807 by decide) hb.1 [.int .i64 5, .int .i64 (n : Int), .int .i64 0, .int .i64 0, .string ⟨#[]⟩] rfl (c := (doJ J (stopAj n)).2.code) (n := (doJ J (stopAj n)).2.n) (t := (doJ J (stopAj n)).2.text) rfl
   have hG2 := hG.step (stopAj n)
   have hof2 : ∀ k : Int, 0 ≤ k → k < ((n + 1 : Nat) : Int) → (getH (doJ J (stopAj n)).1.now k).on = false := fun k h1 h2 => by
    by_cases hk : k = n
    ·rw [hk]; exact s4
    ·exact s5 k (by omega) (hof k h1 (by omega))
   generalize (doJ J (stopAj n)).2.code = cc, (doJ J (stopAj n)).2.n = cn, (doJ J (stopAj n)).2.text = ct at hD
   generalize (doJ J (stopAj n)).1 = J2 at *
   have hwn : IntKind.i64.wrap ((n : Int) + 1) = (n : Int) + 1 := IntWalk.i64_in _ (by omega)
   have hl3 : (n : Int) < 3 := by omega
   replace hD := hid hD
   replace hof2 := hid hof2; replace hof := hid hof; replace hd := hid hd; replace hw := hid hw; replace s1 := hid s1; replace s2 := hid s2; replace s3 := hid s3
   go_wp2_with (first
    | (refine ZyL ?_) | (refine ZyS ?_; clear X; intro w X) | (refine ZyA ?_; clear X; intro g w X)
    | (go_at_call 11; go_loud ((with_reducible refine (hD.out).mono ?_); rintro e w1 ⟨M2, R2, rfl, F2, X2⟩; replace X := X2.perm (perm1J _ _ _).symm; clear X2)))
   go_roundw
   case rel => exact ⟨n + 1, J2, M2, R2, by omega, by go_num, hG2, s1.out, by rw [s2.out]; exact hw.out, by have := s3.out; omega, hof2.out, F2, X⟩
   case measure => simp [intOf]; omega
  ·obtain rfl : n = 3 := by omega
   have hop := open_off (hof 0 (by decide) (by decide)) (hof 1 (by decide) (by decide)) (hof 2 (by decide) (by decide))
   have hsq := hG.seq hd hw
   have e := do_com (j := J) (by omega) hd
   obtain ⟨c1, c2, c3, c4⟩ := com_code (j := { J with acts := J.acts + 1 }) (hG.inv.acts _) hd hG.room hw hop (show J.now.seq < 2147483646 by omega)
   have c1' : (doJ J comAj).2.code = 0 ∨ (doJ J comAj).2.code = 4 := by rw [e]; exact c1
   have hp5 : P1 (doJ J comAj).1 := ⟨by rw [e]; exact c3, by rw [e]; exact c2⟩
   have ha5 : (doJ J comAj).1.acts = J.acts + 1 := by rw [e]; exact c4
   have hD := jr_DoA K F (X.perm (perm1J _ _ _)) hFm.out comAj (Nat.zero_le _) (show (0 : Int) ≤ 9223372036854775807 by decide) hb.1 [.int .i64 6, .int .i64 0, .int .i64 0, .int .i64 0, .string ⟨#[]⟩] rfl (c := (doJ J comAj).2.code) (n := (doJ J comAj).2.n) (t := (doJ J comAj).2.text) rfl
   have hG5 := hG.step comAj
   clear e c1 c2 c3 c4 hop hsq hof
   generalize (doJ J comAj).2.code = cc, (doJ J comAj).2.n = cn, (doJ J comAj).2.text = ct at *
   generalize (doJ J comAj).1 = J5 at *
   have hS2 := hid (fun (w : World) (M : List Ent) (Rj : List Rd) (F : JF gj J5 M Rj) (X : St [] w0 w (⟨gC, [.pointer (some ⟨gj, 0, none⟩)], 24⟩ :: (M ++ [])) (Rj ++ RR)) => st_steps K P1 p1_step hG5 hp5 (by omega) (by omega) F hFm.out X)
   have hb5 := hid (And.intro hb ha5)
   replace hD := hid hD; replace hd := hid hd; replace hw := hid hw; replace hG := hid hG; replace hp5 := hid hp5; replace hG5 := hid hG5
   clear ha5 hb hlt hn
   go_upto_region 19 with (first
    | (refine m_fieldV (v := .int .i64 cc) rfl rfl rfl (fun _ => by kernel_rfl) ?_; (simp only [Act.put, zA, zB, zC, zD, zE, zF, zG, Nat.reduceAdd]))
    | (refine ZyL ?_) | (refine ZyS ?_; clear X; intro w X) | (refine ZyA ?_; clear X; intro g w X)
    | (go_at_call 11; go_loud ((with_reducible refine (hD.out).mono ?_); rintro e w1 ⟨M2, R2, rfl, F2, X2⟩; replace X := X2.perm (perm1J _ _ _).symm; clear X2)))
   go_cut [10, 72] (fun s10 s72 wx => s72 = .bool false ∧ ∃ J6 M6 R6, GJ J6 ∧ P1 J6 ∧ J6.work = 0 ∧ J5.acts ≤ J6.acts ∧ J6.acts ≤ J5.acts + 41 ∧ JF gj J6 M6 R6 ∧ St [] w0 wx (⟨gC, [.pointer (some ⟨gj, 0, none⟩)], 24⟩ :: (M6 ++ [])) (R6 ++ RR))
   case first =>
    rcases c1' with rfl | rfl
    all_goals
     go_wp2_with (first
      | go_skip
      | (refine ZyL ?_) | (refine ZyS ?_; clear X; intro w X) | (refine ZyA ?_; clear X; intro g w X)
      | (go_at_call 25; go_loud ((with_reducible refine (hS2.out _ _ _ F2 X).mono ?_); rintro e w1 ⟨J6, M6, R6, rfl, hG6, hp6, hw6, b1, b2, F6, X2⟩; replace X := X2; clear X2)))
     go_meet
     exact ⟨rfl, J6, M6, R6, hG6, hp6, hw6, b1, b2, F6, X⟩
   case rest =>
    clear X F2 hD hS2 c1'
    obtain ⟨rfl, J6, M6, R6, hG6, hp6, hw6, b1, b2, F6, X⟩ := hcut
    have hb6 : 0 ≤ J6.acts ∧ J6.acts ≤ 230 := by have := hb5.out; omega
    exact Zst3) : A := h
theorem Zst1 {A : Prop} (h : A := by
 obtain ⟨gC, rfl⟩ := X.gsC
 obtain ⟨RR, hRR⟩ := X.rdName (A := Rj)
 have hFm : flR 0 ∈ RR := by rw [hRR]; exact .tail _ (.head _)
 rw [← hRR] at X
 clear hRR hPl hI
 have hSt := hid (st_steps K (fun _ => True) (fun _ _ _ => trivial) hGJ trivial ha0.1 (by omega) F hFm X)
 have ha0 := hid ha0
 replace hFm := hid hFm
 go_upto_region 9 with (first
  | (refine ZyL ?_) | (refine ZyS ?_; clear X; intro w X) | (refine ZyA ?_; clear X; intro g w X)
  | (go_at_call 25; go_loud ((with_reducible refine (hSt.out).mono ?_); rintro e w1 ⟨J1, M1, R1, rfl, hG1, _, hw1, a1, a2, F1, X2⟩; replace X := X2; clear X2)))
 clear hSt F hGJ
 have hR := jr_Ring F1 (X.perm (perm1J _ _ _))
 unfold Ring.val at hR
 obtain ⟨dn, hdn⟩ : ∃ dn, J1.down = dn := ⟨_, rfl⟩
 rw [hdn] at hR
 replace hR := hid hR; replace hdn := hid hdn; replace a1 := hid a1; replace a2 := hid a2; replace hw1 := hid hw1
 go_upto_if 39 with (first
  | (refine ZyL ?_) | (refine ZyS ?_; clear X; intro w X) | (refine ZyA ?_; clear X; intro g w X)
  | (go_at_call 10; go_loud ((with_reducible refine (hR.out).mono ?_); rintro e w1 ⟨rfl, X2⟩; replace X := X2.perm (perm1J _ _ _).symm; clear X2)))
 replace X := X.sub (.cons _ (List.Sublist.refl _))
 clear hR
 go_cut [8] (fun s8 wx => ∃ J3 M3 R3, GJ J3 ∧ J3.down = false ∧ J3.work = 0 ∧ (0 ≤ J3.acts ∧ J3.acts ≤ 183) ∧ JF gj J3 M3 R3 ∧ St [] w0 wx (⟨gC, [.pointer (some ⟨gj, 0, none⟩)], 24⟩ :: (M3 ++ [])) (R3 ++ RR))
 case first =>
  cases dn with
  | true =>
   have hd := hdn.out
   obtain ⟨r1, r2, r3⟩ := rec_ok hG1.inv (by have := ha0.out; have := a2.out; omega) hd hw1.out
   have hD := jr_DoA K F1 (X.perm (perm1J _ _ _)) hFm.out recA (Nat.zero_le _) (show (0 : Int) ≤ 9223372036854775807 by decide) (by have := ha0.out; have := a1.out; omega) [.int .i64 11, .int .i64 0, .int .i64 0, .int .i64 0, .string ⟨#[]⟩] rfl (c := 0) (n := 0) (t := ⟨#[]⟩) r1
   have hG2 := hG1.step recA
   generalize (doJ J1 recA).1 = J2 at hD hG2 r2 r3
   have hS2 := hid (fun (w : World) (M : List Ent) (Rj : List Rd) (F : JF gj J2 M Rj) (X : St [] w0 w (⟨gC, [.pointer (some ⟨gj, 0, none⟩)], 24⟩ :: (M ++ [])) (Rj ++ RR)) => st_steps K upI p0_step hG2 (fun _ => r2) (by have := ha0.out; have := a1.out; omega) (by have := ha0.out; have := a2.out; omega) F hFm.out X)
   replace hD := hid hD
   replace r1 := hid r1; replace r2 := hid r2; replace r3 := hid r3; replace hd := hid hd
   go_wp2_with (first
    | go_skip
    | (refine m_fieldV (v := .int .i64 0) rfl rfl rfl (fun _ => by kernel_rfl) ?_; (simp only [Act.put, zA, zB, zC, zD, zE, zF, zG, Nat.reduceAdd]))
    | (refine ZyL ?_) | (refine ZyS ?_; clear X; intro w X) | (refine ZyA ?_; clear X; intro g w X)
    | (go_at_call 11; go_loud ((with_reducible refine (hD.out).mono ?_); rintro e w1 ⟨M2, R2, rfl, F2, X2⟩; replace X := X2.perm (perm1J _ _ _).symm; clear X2))
    | (go_at_call 25; go_loud ((with_reducible refine (hS2.out _ _ _ F2 X).mono ?_); rintro e w1 ⟨J3, M3, R3, rfl, hG3, hu3, hw3, b1, b2, F3, X2⟩; replace X := X2; clear X2)))
   go_meet
   have hd3 : J3.down = false := by
    cases h : J3.down with
    | false => rfl
    | true => have := hu3 h; omega
   exact ⟨J3, M3, R3, hG3, hd3, hw3, by have := ha0.out; have := a1.out; have := a2.out; have := r3.out; omega, F3, X⟩
  | false =>
   go_wp2_with (first
    | (refine ZyL ?_) | (refine ZyS ?_; clear X; intro w X) | (refine ZyA ?_; clear X; intro g w X))
   go_meet
   exact ⟨J1, M1, R1, hG1, hdn.out, hw1.out, by have := ha0.out; have := a1.out; have := a2.out; omega, F1, X⟩
 case rest =>
  clear X F1 hG1 hdn a1 a2 hw1
  obtain ⟨J3, M3, R3, hG3, hd3, hw3, hb3, F3, X⟩ := hcut
  exact Zst2) : A := h
theorem law_TopSettles (K : JK) (l : List Aj) (hok : ∀ a ∈ l, a.text.size ≤ 9223372036854775807 ∧ a.n ≤ 9223372036854775807) {al : Option Addr} {cl : Nat} (w0 : World) (hl : RL ajC w0 (.slice al l.length cl) l) (hF : Sl w0 (flR 0).v 1 (flR 0).cs) :
    Calls Tryz.prog 8 #[.slice al l.length cl] w0 fun e w' => e = .returned (.bool true) ∧ Below w0.heap.size w0 w' := by
 have hcl : l.length ≤ cl := by obtain ⟨_, _, h1, h2, _⟩ := hl; cases h1; exact h2
 obtain ⟨l2, c2, hl2, hr2, hok2, hval⟩ : ∃ (l2 : List Aj) (c2 : Nat), l2.length ≤ 100 ∧ RL ajC w0 (.slice al l2.length c2) l2 ∧ (∀ a ∈ l2, a.text.size ≤ 9223372036854775807 ∧ a.n ≤ 9223372036854775807) ∧ (l.length ≤ 100 ∧ l2 = l ∧ c2 = cl ∨ 100 < l.length ∧ l2.length = 100 ∧ c2 = cl) := by
  by_cases h : 100 < l.length
  ·have hk : (l.take 100).length = 100 := by rw [List.length_take]; omega
   refine ⟨l.take 100, cl, by omega, ?_, fun a ha => hok a (List.mem_of_mem_take ha), .inr ⟨h, hk, rfl⟩⟩
   have := RL.take hl (k := 100) (by omega)
   rw [hk]; exact this
  ·exact ⟨l, cl, by omega, hl, hok, .inl ⟨by omega, rfl, rfl⟩⟩
 have X : St [] w0 w0 [] [Rd.of ajC (.slice al l2.length c2) l2, flR 0] := ((St.start [] w0).addR0 hF).addR0 hr2
 have hPl := hid (fun (w : World) (X : St [] w0 w [] [Rd.of ajC (.slice al l2.length c2) l2, flR 0]) => play_quiet K l2 hok2 X (.tail _ (.head _)) (.head _))
 have hac := acts_at_eq3 l2 (min l2.length 150) (Nat.min_le_left _ _) (by omega)
 have hGJ := gj_at l2 (min l2.length 150)
 have ha0 : 0 ≤ (jAt l2 (min l2.length 150)).acts ∧ (jAt l2 (min l2.length 150)).acts ≤ 100 := by omega
 generalize jAt l2 (min l2.length 150) = J0 at *
 clear hac
 replace hGJ := hid hGJ; replace ha0 := hid ha0
 go_enter Tryz.func8, Tryz.ntmps8
 go_upto_if 19 with (first
  | (refine ZyL ?_) | (refine ZyS ?_; clear X; intro w X) | (refine ZyA ?_; clear X; intro g w X))
 go_cut [0] (fun s0 wx => s0 = .slice al l2.length c2 ∧ St [] w0 wx [] [Rd.of ajC (.slice al l2.length c2) l2, flR 0])
 case first =>
  rcases hval with ⟨h1, h2, h3⟩ | ⟨h1, h2, h3⟩
  ·subst h2; subst h3
   have h4 : ¬ (100 < (l2.length : Int)) := by omega
   go_wp2_with (first
    | (refine ZyL ?_) | (refine ZyS ?_; clear X; intro w X) | (refine ZyA ?_; clear X; intro g w X))
   go_meet
   exact ⟨rfl, X⟩
  ·subst h3
   have h4 : 100 < (l.length : Int) := by omega
   have h5 : (100 : Int) ≤ (c2 : Int) := by omega
   have h6 : 100 ≤ c2 := by omega
   go_wp2_with (first
    | (refine ZyL ?_) | (refine ZyS ?_; clear X; intro w X) | (refine ZyA ?_; clear X; intro g w X))
   go_meet
   exact ⟨by rw [h2], X⟩
 case rest =>
  clear X
  obtain ⟨rfl, X⟩ := hcut
  replace hPl := hid (hPl.out _ X)
  clear hval hr2 hl hF
  go_upto_region 6 with (first
   | (refine ZyL ?_) | (refine ZyS ?_; clear X; intro w X) | (refine ZyA ?_; clear X; intro g w X)
   | (go_at_call 21; go_loud ((with_reducible refine (hPl.out).mono ?_); rintro e w1 ⟨gj, M, Rj, rfl, F, hI, X2⟩; replace X := X2; clear X2)))
  replace hGJ := hGJ.out
  replace ha0 := ha0.out
  exact Zst1
end Go.Proofs.YtjhmfljlclajnacGreatDoor
namespace Go.Proofs.YtjhmfljlclajnacGreatDoor
open Go.RowKit Wb
set_option maxRecDepth 100000
set_option maxHeartbeats 1000000
theorem disk_Put_good (d : Dsk) (n : Int) (t : ByteArray) (v : Value) (w : World) (hd : RDisk w v d) (hg : goodD d = true) (ha : isAt n = true) (h32 : t.size = 32) (h200 : ¬ 200 ≤ d.writes.length) :
    Calls Tryz.prog 62 #[v, .int .i64 n, .string t] w fun e w' => ∃ v', e = .returned (.tuple #[v', .int .i64 0]) ∧ RDisk w' v' ⟨d.safe, d.writes ++ [⟨n, t⟩]⟩ ∧ NewD w.heap.size w' v v' d ⟨d.safe, d.writes ++ [⟨n, t⟩]⟩ ∧ Below w.heap.size w w' := by
 have hG := fun w (hh : RDisk w v d) => disk_Good d v w hh
 have hA := fun w => disk_at n w
 rw [hg] at hG
 rw [ha] at hA
 have e1 : ((t.size : Int) != 32) = false := by rw [h32]; rfl
 have hd2 := hd
 obtain ⟨vs, vw, rfl, hs, hw, n1, n2⟩ := hd
 obtain ⟨a, cap, rfl, ca1, ca2⟩ := hs.form
 obtain ⟨b, bcap, rfl, cb1, cb2⟩ := hw.form
 replace hd2 := hid hd2
 clear hg ha h32
 obtain ⟨safe, writes⟩ := d
 dsimp only at *
 have hC := fun v w (hh : RL wrC w v writes) => clone_Writes writes v w hh n2
 replace hG := hid hG
 replace hA := hid hA
 replace hC := hid hC
 replace hs := hid hs
 replace hw := hid hw
 go_enter Tryz.func62, Tryz.ntmps62
 go_wp2_with (first
  | (go_at_call 110; refine (hG.out _ (hd2.out.below (by exact Zlo))).mono ?_; rintro e w1 ⟨rfl, hb1⟩; obtain ⟨hbc, hbf⟩ := bcell hb1; have hbz := hb1.size; try simp only [World.size_alloc, World.size_setCell, World.size_drew] at hbz; have hz0 := Nat.lt_of_lt_of_le (n := w.heap.size) (by omega) hbz; have hz1 := Nat.lt_of_lt_of_le (n := w.heap.size + 1) (by omega) hbz)
  | (go_at_call 111; refine (hA.out _).mono ?_; rintro e w2 ⟨rfl, rfl⟩))
 have hnx : Below w.heap.size w w1 := by exact Zlo
 have k0 : Blk w1 w.heap.size #[.slice a safe.length cap, .slice b writes.length bcap] 46 := ((Blk.new w _ _).alloc _).step hb1
 have k1 : Blk w1 (w.heap.size + 1) #[.slice none 0 0, .slice none 0 0] 46 := (Blk.newAt (w := w.alloc _) (by simp)).step hb1
 have c0 := k0.cell 0
 have c1 := k0.cell 1
 simp only [Zga, Zgb, Zgc] at c0 c1
 have hw1 := hid (hw.out.below hnx)
 clear hb1 hbc hbf hw hd2
 go_region_held3 (fun w' => w'.cell? ⟨w.heap.size, 0, none⟩ = some (.slice a safe.length cap) ∧ w'.cell? ⟨w.heap.size, 1, none⟩ = some (.slice b writes.length bcap)) (first | exact ⟨by with_reducible assumption, by with_reducible assumption⟩ | go_keep) (first
  | (refine step_call 46 _ _ (by rfl) (by rfl) #[.slice b writes.length bcap] (by rfl) ⟨_, _, Tryz.func46, by kernel_rfl, rfl⟩ (hC.out _ _ (hw1.out.below (by exact Zlo))) ?_; rintro e w3 ⟨v3, rfl, hown3, hb3⟩; obtain ⟨a3, cap3, rfl⟩ := hown3.form; have hz3 : w1.heap.size ≤ w3.heap.size := (by have h := hb3.size; simp at h; omega); have k3 : Blk w3 (w.heap.size + 1) #[.slice none 0 0, .slice none 0 0] 46 := (by with_reducible (first | exact k1.drew.step hb3 | exact (k1.alloc _).drew.step hb3)); replace hown3 := hown3.mono (base' := w1.heap.size) (by simp); have hb13 : Below w.heap.size w w3 := (by with_reducible (first | exact hnx.drew.trans (hb3.mono (by simp; omega)) | exact (allocB hnx (by omega) _).drew.trans (hb3.mono (by simp; omega)))); have k03 : Blk w3 w.heap.size #[.slice a safe.length cap, .slice b writes.length bcap] 46 := (by with_reducible (first | exact k0.drew.step hb3 | exact (k0.alloc _).drew.step hb3)); have p0 := k03.cell 0; have p1 := k03.cell 1; simp only [Zga, Zgb, Zgc] at p0 p1; refine ⟨_, rfl, ?_⟩)
  | go_loud (refine step_app (by rfl) _ _ 44 (by rfl) w1.heap.size _ 2 24 wrC_flat elemWr (hown3.alloc _) (by rfl) [⟨n, t⟩] (RL.newN (f := wrC) _ _ _ [⟨n, t⟩] (by show 1 ≤ maxLen; decide)) (by rfl) (by (try simp); omega) (by (try simp); unfold maxLen; omega) (by (try simp); omega) ?_; intro v4 w4 hown4 hb4 _; obtain ⟨a4, cap4, rfl⟩ := hown4.form; have k4 := (k3.alloc _).below hb4 (by omega); have hb14 := (allocB hb13 (by omega) _).trans (hb4.mono (by omega)); have k04 := (k03.alloc _).below hb4 (by omega); have p2 := k04.cell 0; have p3 := k04.cell 1; simp only [Zga, Zgb, Zgc] at p2 p3; have f0 := k4.cell 0; have f1 := k4.cell 1; simp only [Zga, Zgb, Zgc] at f0 f1; have f2 := k4.free 0; have f3 := k4.free 1)
  | go_loud (refine step_app (by rfl) _ _ 44 (by rfl) w1.heap.size _ 2 24 wrC_flat elemWr hown3 (by rfl) [⟨n, t⟩] (RL.ofBlk (f := wrC) (g := w1.heap.size) [⟨n, t⟩] ((Blk.newAt (w := w1) (by simp)).drew.step hb3) (by show 1 ≤ maxLen; decide)) (by rfl) (by (try simp); omega) (by (try simp); unfold maxLen; omega) (by (try simp); omega) ?_; intro v4 w4 hown4 hb4 _; obtain ⟨a4, cap4, rfl⟩ := hown4.form; have k4 := k3.below hb4 (by omega); have hb14 := hb13.trans (hb4.mono (by omega)); have k04 := k03.below hb4 (by omega); have p2 := k04.cell 0; have p3 := k04.cell 1; simp only [Zga, Zgb, Zgc] at p2 p3; have f0 := k4.cell 0; have f1 := k4.cell 1; simp only [Zga, Zgb, Zgc] at f0 f1; have f2 := k4.free 0; have f3 := k4.free 1))
 all_goals
  go_wp2
  have e4 : (writes ++ [(⟨n, t⟩ : Wr)]).length = writes.length + 1 := by simp
  rw [e4] at hown4
  have l1 := k1.lt
  have hF : Below w.heap.size w ((w4.setCell ⟨w.heap.size + 1, 0, none⟩ (.slice a safe.length cap)).setCell ⟨w.heap.size + 1, 1, none⟩ (.slice a4 (writes.length + 1) cap4)) := (hb14.setCell (by simp) _).setCell (by simp) _
  refine bodyPost_ret (v := .tuple #[.agg #[.slice a safe.length cap, .slice a4 (writes.length + 1) cap4], .int .i64 0]) (by simp [results, Tryz.results62, go_sem, f0, f1]) rfl ⟨_, rfl, ⟨_, _, rfl, hs.out.below hF, ?_, n1, by simp; omega⟩, ⟨_, _, _, _, rfl, rfl, .same _ _ _ _ _, ?_⟩, hF⟩
  ·exact ((hown4.setCell (by simp; omega) _).setCell (by simp; omega) _).reads
  ·exact ((hown4.setCell (by simp; omega) _).setCell (by simp; omega) _).slot (by omega)
theorem disk_PutN (d : Dsk) (n : Int) (t : ByteArray) (v : Value) (w : World) (hd : RDisk w v d) :
    Calls Tryz.prog 62 #[v, .int .i64 n, .string t] w fun e w' => ∃ v', e = .returned (.tuple #[v', .int .i64 (putE d n t)]) ∧ RDisk w' v' (putD d n t) ∧ NewD w.heap.size w' v v' d (putD d n t) ∧ Below w.heap.size w w' := by
 have hG := fun w (hh : RDisk w v d) => disk_Good d v w hh
 have hA := fun w => disk_at n w
 have hd2 := hd
 obtain ⟨vs, vw, rfl, hs, hw, n1, n2⟩ := hd
 obtain ⟨a, cap, rfl, _⟩ := hs.form
 obtain ⟨b, bcap, rfl, _⟩ := hw.form
 replace hd2 := hid hd2
 by_cases hg : goodD d = true
 ·rw [hg] at hG
  by_cases ha : isAt n = true
  ·have hg0 := hg
   have ha0 := ha
   rw [ha] at hA
   have hgood : goodD d = true ∧ isAt n = true := ⟨hg, ha⟩
   by_cases h32 : t.size = 32
   ·have e1 : ((t.size : Int) != 32) = false := by rw [h32]; rfl
    by_cases h200 : 200 ≤ d.writes.length
    ·have he : putE d n t = 11 := by unfold putE; rw [if_neg (not_not_intro hgood), if_neg (not_not_intro h32), if_pos h200]
     have hv : putD d n t = d := by unfold putD; rw [he, if_neg (by decide)]
     rw [hv, he]
     clear ha hg hv he hs hw hgood h32
     replace hG := hid hG
     replace hA := hid hA
     go_enter Tryz.func62, Tryz.ntmps62
     go_wp2_with (first
      | (go_at_call 110; refine (hG.out _ (hd2.out.below (by exact Zlo))).mono ?_; rintro e w1 ⟨rfl, hb1⟩; obtain ⟨hbc, hbf⟩ := bcell hb1; have hbz := hb1.size; try simp only [World.size_alloc, World.size_setCell, World.size_drew] at hbz; have hz0 := Nat.lt_of_lt_of_le (n := w.heap.size) (by omega) hbz; have hz1 := Nat.lt_of_lt_of_le (n := w.heap.size + 1) (by omega) hbz)
      | (go_at_call 111; refine (hA.out _).mono ?_; rintro e w2 ⟨rfl, rfl⟩))
     exact bodyPost_ret (v := .tuple #[.agg #[.slice a d.safe.length cap, .slice b d.writes.length bcap], .int .i64 11]) (by simp [results, Tryz.results62, go_sem, hbc]) rfl ⟨_, rfl, hd2.out.below (by exact Zlo), hd2.out.same _, by exact Zlo⟩
    ·have he : putE d n t = 0 := by unfold putE; rw [if_neg (not_not_intro hgood), if_neg (not_not_intro h32), if_neg h200]
     have hv : putD d n t = ⟨d.safe, d.writes ++ [⟨n, t⟩]⟩ := by unfold putD; rw [if_pos he]
     rw [hv, he]
     clear ha hg hv he hgood
     exact disk_Put_good d n t _ w hd2.out hg0 ha0 h32 h200
   ·have e1 : ((t.size : Int) != 32) = true := bne_iff_ne.2 (by omega)
    have he : putE d n t = 1 := by unfold putE; rw [if_neg (not_not_intro hgood), if_pos h32]
    have hv : putD d n t = d := by unfold putD; rw [he, if_neg (by decide)]
    rw [hv, he]
    clear ha hg hv he hs hw hgood h32
    replace hG := hid hG
    replace hA := hid hA
    go_enter Tryz.func62, Tryz.ntmps62
    go_wp2_with (first
     | (go_at_call 110; refine (hG.out _ (hd2.out.below (by exact Zlo))).mono ?_; rintro e w1 ⟨rfl, hb1⟩; obtain ⟨hbc, hbf⟩ := bcell hb1; have hbz := hb1.size; try simp only [World.size_alloc, World.size_setCell, World.size_drew] at hbz; have hz0 := Nat.lt_of_lt_of_le (n := w.heap.size) (by omega) hbz; have hz1 := Nat.lt_of_lt_of_le (n := w.heap.size + 1) (by omega) hbz)
     | (go_at_call 111; refine (hA.out _).mono ?_; rintro e w2 ⟨rfl, rfl⟩))
    exact bodyPost_ret (v := .tuple #[.agg #[.slice a d.safe.length cap, .slice b d.writes.length bcap], .int .i64 1]) (by simp [results, Tryz.results62, go_sem, hbc]) rfl ⟨_, rfl, hd2.out.below (by exact Zlo), hd2.out.same _, by exact Zlo⟩
  ·have he : putE d n t = 2 := by unfold putE; rw [if_pos (fun hh => ha hh.2)]
   have hv : putD d n t = d := by unfold putD; rw [he, if_neg (by decide)]
   rw [hv, he]
   rw [Bool.not_eq_true _ |>.mp ha] at hA
   clear ha hg hv he
   replace hG := hid hG
   replace hA := hid hA
   replace hs := hid hs
   replace hw := hid hw
   go_enter Tryz.func62, Tryz.ntmps62
   go_wp2_with (first
    | (go_at_call 110; refine (hG.out _ (hd2.out.below (by exact Zlo))).mono ?_; rintro e w1 ⟨rfl, hb1⟩; obtain ⟨hbc, hbf⟩ := bcell hb1; have hbz := hb1.size; try simp only [World.size_alloc, World.size_setCell, World.size_drew] at hbz; have hz0 := Nat.lt_of_lt_of_le (n := w.heap.size) (by omega) hbz; have hz1 := Nat.lt_of_lt_of_le (n := w.heap.size + 1) (by omega) hbz)
    | (go_at_call 111; refine (hA.out _).mono ?_; rintro e w2 ⟨rfl, rfl⟩))
   exact bodyPost_ret (v := .tuple #[.agg #[.slice a d.safe.length cap, .slice b d.writes.length bcap], .int .i64 2]) (by simp [results, Tryz.results62, go_sem, hbc]) rfl ⟨_, rfl, hd2.out.below (by exact Zlo), hd2.out.same _, by exact Zlo⟩
 ·have he : putE d n t = 2 := by unfold putE; rw [if_pos (fun hh => hg hh.1)]
  have hv : putD d n t = d := by unfold putD; rw [he, if_neg (by decide)]
  rw [hv, he]
  rw [Bool.not_eq_true _ |>.mp hg] at hG
  clear hg hv he hs hw
  replace hG := hid hG
  go_enter Tryz.func62, Tryz.ntmps62
  go_wp2_with (go_at_call 110; refine (hG.out _ (hd2.out.below (by exact Zlo))).mono ?_; rintro e w1 ⟨rfl, hb1⟩; obtain ⟨hbc, hbf⟩ := bcell hb1; have hbz := hb1.size; try simp only [World.size_alloc, World.size_setCell, World.size_drew] at hbz; have hz0 := Nat.lt_of_lt_of_le (n := w.heap.size) (by omega) hbz; have hz1 := Nat.lt_of_lt_of_le (n := w.heap.size + 1) (by omega) hbz)
  exact bodyPost_ret (v := .tuple #[.agg #[.slice a d.safe.length cap, .slice b d.writes.length bcap], .int .i64 2]) (by simp [results, Tryz.results62, go_sem, hbc]) rfl ⟨_, rfl, hd2.out.below (by exact Zlo), hd2.out.same _, by exact Zlo⟩
end Go.Proofs.YtjhmfljlclajnacGreatDoor
