/- Parts of the proof: Range Chunk ComP SealA SealB SealC SealD Esc. -/
import Derived.Test.YtjhmfljlclajnaaGreatDoorKTopReads4
import Derived.RangeFuncNested
import Derived.OrdersIn
import Derived.Test.YtjhmfljlclajnaaGreatDoorKTopReads5
import Derived.Shelf.Abstract
import Derived.OwnWalkIn
import Derived.TacticsInMore
import Derived.LoopNIn
import Derived.LoopIn
import Derived.Test.YtjhmfljlclajnaaGreatDoorKTopReads1
import Derived.Test.YtjhmfljlclajnaaGreatDoorKTopReads12
import Derived.Lib.SmallJoins
import Derived.Deep.CutBlock
import Derived.Deep.DeepCutAuto
import Derived.Deep.LoopGhost
import Derived.Test.YtjhmfljlclajnaaGreatDoorUEnc
import Derived.Test.YtjhmfljlclajnaaGreatDoorKTopReads0
import Derived.Test.YtjhmfljlclajnaaGreatDoorUShelf
import Derived.Test.YtjhmfljlclajnaaGreatDoorUFit2
import Derived.Test.YtjhmfljlclajnaaGreatDoorUPure2
import Derived.Test.YtjhmfljlclajnaaGreatDoorURing
import Derived.Test.YtjhmfljlclajnaaGreatDoorUPure
import Derived.Deep.RegionWith
set_option linter.unusedVariables false
set_option linter.unusedSimpArgs false
namespace Wb
open Go Go.RowKit
abbrev FW : Fence := Fence.wide
def Iter (P : Program) (gf : Nat) (lb : Array Value) (xs : List Value) (B : List Nat) (w : World) : Prop :=
 ∀ (l : Nat) (J : Nat → World → Prop) (W : World), (∀ b ∈ B, W.heap[b]? = w.heap[b]?) → (∀ k A A', J k A → Below A.heap.size A A' → J k A') →
  (∀ k (hk : k < xs.length) A, J k A → YieldAt FW 0 P l #[xs[k]] A fun e A' => e = .returned (.bool true) ∧ J (k + 1) A' ∧ A.heap.size ≤ A'.heap.size ∧ ∀ b ∈ B, A'.heap[b]? = A.heap[b]?) →
  J 0 W → CallsIn FW 0 P gf (#[.func (.yield l) #[] #[]] ++ lb) W fun e W' => (∃ v, e = .returned v) ∧ J xs.length W'
section
variable {P : Program} {Q : Exit → Act → World → Prop} {a : Act} {w : World}
structure AtBody (W W1 : World) (p : Prop) : Prop where
 eq : W1 = W
 run : p
def BodyRun (P : Program) (body : Code) (w : World) (B : List Nat) (I : Nat → World → Prop) (k l : Nat) (a1 : Act) : Prop :=
 ∀ W2, w.heap.size ≤ W2.heap.size → I k W2 → body.wpIn (FW.inRound l) 0 P (fun e _ W' => e = .normal ∧ KeepsFrom w.heap.size W2 W' ∧ (∀ b ∈ B, W'.heap[b]? = W2.heap[b]?) ∧ I (k + 1) W') a1 W2
theorem wp_range {g : Operand} {p : Tmp} {assign body : Code} {gf : Nat} {lb : Array Value} {xs : List Value} {B : List Nat} (hg : a.eval g = .func (.func gf) #[] lb) (eg : ∀ args w, (callFunc gf args).run P w = .ok (.enter gf args) w)
    (hB : ∀ b ∈ B, b < w.heap.size) (hit : Iter P gf lb xs B w) (I : Nat → World → Prop) (hI : ∀ k A A', I k A → Below A.heap.size A A' → I k A')
    (hI2 : ∀ k A l o o', I k A → w.heap.size ≤ l → A.heap[l]? = some o → o.isCells = false → I k (A.putObj l o')) (h0 : I 0 w)
    (hround : ∀ k (hk : k < xs.length) l W, assign.wpIn (FW.inRound l) 0 P (Exit.then (fun a1 W1 => AtBody W W1 (BodyRun P body w B I k l a1)) (fun _ _ _ => False)) { tmps := a.tmps.setIfInBounds p xs[k], defers := [] } W)
    (hdone : ∀ D W, w.heap.size ≤ D → I xs.length W → W.heap[D]? = some (.deferred (some [])) → Q .normal { a with defers := { target := .collected D, args := #[] } :: a.defers } W) :
    (Code.rangeFunc g #[p] assign body).wp P Q a w := by
 refine (wpIn_wide (n := 0)).1 (wpIn_rangeFunc fun fn hfn => ?_)
 obtain ⟨rec, hrec⟩ : ∃ rec : LoopState → Option Code → Loop, rec = fun st pe => { state := st, pending := pe, fn, tmps := a.tmps, params := #[p], assign, body, defers := w.heap.size } := ⟨_, rfl⟩
 obtain ⟨W1, hW1⟩ : ∃ W1, (w.alloc (.deferred (some []))).alloc (.loop (rec .ready none)) = W1 := ⟨_, rfl⟩
 have hb1 : Below w.heap.size w W1 := by rw [← hW1]; exact bal (bal (b0 w) _) _
 have hL1 : W1.heap[w.heap.size + 1]? = some (.loop (rec .ready none)) := by
  rw [← hW1]; have := World.alloc_heap_new (w.alloc (.deferred (some []))) (.loop (rec .ready none)); rwa [World.size_alloc] at this
 have hK1 : W1.heap[w.heap.size]? = some (.deferred (some [])) := by
  rw [← hW1]; exact (Below.heap_alloc _ _ _ (by simp)).trans (World.alloc_heap_new w _)
 have hne : ∀ {W : World} {l : Nat} {o : Obj}, w.heap.size ≤ l → ∀ b ∈ B, (W.putObj l o).heap[b]? = W.heap[b]? := fun hl b hb => World.putObj_heap_other (by have := hB b hb; omega)
 refine ⟨w.heap.size + 1, [{ target := .collected w.heap.size, args := #[] }], W1, { target := .fn (.func gf) lb, args := #[.func (.yield (w.heap.size + 1)) #[] #[]] }, W1, gf,
  #[.func (.yield (w.heap.size + 1)) #[] #[]] ++ lb, W1, ?_, ?_, fun _ _ => trivial, ?_, fun h => by simp [Fence.wide] at h, ?_⟩
 ·rw [← hW1, hrec]; exact run_enterLoop_outer _ _ _ _ _
 ·simp only [resolve, hg]
  simp [go_sem]
 ·simp [invoke, go_sem, eg]
 refine (hit (w.heap.size + 1) (fun k W => I k W ∧ W.heap[w.heap.size + 1]? = some (.loop (rec .ready none)) ∧ W.heap[w.heap.size]? = some (.deferred (some [])) ∧ w.heap.size ≤ W.heap.size) W1
  (fun b hb => hb1.block b (hB b hb)) (fun k A A' h hb => ?_) (fun k hk A h => ?_) ⟨hI _ _ _ h0 hb1, hL1, hK1, hb1.size⟩).mono ?_
 ·obtain ⟨h1, h2, h3, h4⟩ := h
  exact ⟨hI _ _ _ h1 hb, (hb.block _ (Array.getElem?_eq_some_iff.1 h2).1).trans h2, (hb.block _ (Array.getElem?_eq_some_iff.1 h3).1).trans h3, Nat.le_trans h4 hb.size⟩
 ·obtain ⟨hi, hl, hk1, hsz⟩ := h
  have hlt : w.heap.size + 1 < A.heap.size := (Array.getElem?_eq_some_iff.1 hl).1
  have hy := run_yield (P := P) (args := #[xs[k]]) hl (by rw [hrec]; simp)
  rw [hrec] at hy
  have hl2 : (A.putObj (w.heap.size + 1) (.loop { rec .ready none with state := .busy })).heap[w.heap.size + 1]? = some (.loop { rec .ready none with state := .busy }) := World.putObj_heap_same hlt
  have hk2 : (A.putObj (w.heap.size + 1) (.loop { rec .ready none with state := .busy })).heap[w.heap.size]? = some (.deferred (some [])) := (World.putObj_heap_other (by omega)).trans hk1
  have hts : (#[p].zip #[xs[k]]).foldl (fun t (x : Tmp × Value) => t.setIfInBounds x.1 x.2) a.tmps = a.tmps.setIfInBounds p xs[k] := by simp
  refine ⟨fn, _, assign, body, hy, roundIn_of_wpIn hfn ?_⟩
  have hr0 := hround k hk (w.heap.size + 1) A
  rw [← hts] at hr0
  refine wpIn_mono hr0 ?_
  intro e a1 W1 hq
  cases e with
  | normal =>
   obtain ⟨rfl, hq⟩ := hq
   refine ⟨_, run_beginRound hl (by rw [hrec]), wpIn_mono (hq _ (by simpa using hsz) (hI2 _ _ _ _ _ hi (by omega) hl rfl)) ?_⟩
   rintro e a3 W3 ⟨rfl, hk3, hB3, hi3⟩
   have hl3 := hk3.same _ _ (by omega) hl2 rfl
   have hr := run_endRound (P := P) none hl3
   rw [hrec] at hr hl3 ⊢
   have hlt3 := (Array.getElem?_eq_some_iff.1 hl3).1
   refine ⟨_, _, hr, rfl, ⟨hI2 _ _ _ _ _ hi3 (by omega) hl3 rfl, World.putObj_heap_same hlt3, (World.putObj_heap_other (by omega)).trans (hk3.same _ _ (Nat.le_refl _) hk2 rfl), ?_⟩, ?_, fun b hb => ?_⟩
   ·have := hk3.size; simp at this ⊢; omega
   ·have := hk3.size; simp at this ⊢; omega
   ·rw [hne (by omega) b hb, hB3 b hb]
    exact hne (by omega) b hb
  | _ => exact hq.elim
 ·rintro e W2 ⟨⟨v, rfl⟩, hi, hl, hk, hsz⟩
  exact ⟨none, _, by have := run_endLoop (P := P) hl (by rw [hrec]; simp); rw [hrec] at this; exact this, hdone _ _ (Nat.le_refl _) (hI2 _ _ _ _ _ hi (by omega) hl rfl) ((World.putObj_heap_other (by omega)).trans hk)⟩
theorem upon_in {F : Fence} {n : Nat} (hd : F.depth = none) (hf : ∀ f, F.fn f) (hF : ∀ m, Machine.fenced P F m) {o : Oper} {K : Act → World → Prop} : ∀ {r : Result Next}, o.upon P a K Q r → o.uponIn F n P a K Q r
 | .ok (.value v) w', h => h
 | .ok .skip w', h => h
 | .ok (.defer d) w', h => h
 | .ok (.enter f args) w', h => ⟨fun hh => (by rw [hd] at hh; cases hh), hf f, fun cs _ => by
     obtain ⟨e, w2, fr, h1, h2, h3⟩ := h cs
     refine ⟨e, w2, fr, ?_, ?_, h3⟩
     · cases e <;> exact h1
     · cases e with
       | returned v => exact (StepsIn.of_steps h2).mono fun m _ => hF m
       | panicked c => exact (StepsIn.of_steps h2).mono fun m _ => hF m
       | outgrown => exact h2⟩
 | .ok (.row row args) w', h => ⟨fun hh => (by rw [hd] at hh; cases hh), fun c cs _ => by
     obtain ⟨v, w2, h1, h2⟩ := h c cs
     exact ⟨v, w2, h1, (StepsIn.of_steps h2).mono fun m _ => hF m⟩⟩
 | .ok (.round ..) w', h => h.elim
 | .halt x w', h => by cases x <;> first | exact h | exact h.elim
def noDefer : Oper → Bool := fun o => match o.op with | .defer _ => false | _ => true
theorem oper_in {F : Fence} {n : Nat} (hd : F.depth = none) (hf : ∀ f, F.fn f) (hF : ∀ m, Machine.fenced P F m) {o : Oper} (ho : noDefer o = true) {K : Act → World → Prop} (h : o.wp P a w K Q) : o.wpIn F n P a w K Q := by
 have hs : o.semAt F.round a.eval = execOp a.eval o := by
  cases hr : F.round with
  | none => simp [Oper.semAt]
  | some l => exact Oper.semAt_some l _ _ fun c hc => by unfold noDefer at ho; rw [hc] at ho; cases ho
 refine ⟨fun f _ => hf f, ?_⟩
 rw [hs]
 exact upon_in hd hf hF h
theorem list_in {F : Fence} {n : Nat} (hd : F.depth = none) (hf : ∀ f, F.fn f) (hF : ∀ m, Machine.fenced P F m) {ops : Array Oper} (hno : ∀ a w, ¬ Q .outgrown a w) : ∀ (l : List Oper) (a : Act) (w : World), l.all noDefer = true → wpList P ops Q l a w → wpListIn F n P ops Q l a w
 | [], _, _, _, h => h
 | o :: r, a, w, hn, h => by
  rw [List.all_cons, Bool.and_eq_true] at hn
  unfold wpList at h
  unfold wpListIn
  split at h
  ·rename_i hw
   rw [if_pos hw]
   exact Oper.wpIn_mono (fun a w hh => list_in hd hf hF hno r a w hn.2 hh) (oper_in hd hf hF hn.1 (h.resolve_right fun hh => by obtain ⟨_, a, w, hq⟩ := hh; exact hno a w hq))
  ·rename_i hw
   rw [if_neg hw]
   exact ⟨fun f _ => hf f, list_in hd hf hF hno r _ _ hn.2 h⟩
theorem region_in {l id : Nat} {ops : List Oper} (hn : ops.all noDefer = true) (hno : ∀ a w, ¬ Q .outgrown a w) (h : wpList P ops.toArray Q ops a w) : (Code.region id ops.toArray false).wpIn (FW.inRound l) 0 P Q a w :=
 wpIn_region_lit (list_in (F := FW.inRound l) rfl (fun _ => trivial) (fun m => fenced_wide P m) hno _ _ _ hn h)
end
section
variable {S : List Nat} {w0 W W' : World} {L L' : List Ent} {R R' : List Rd}
theorem St.restart (X : St S w0 W L R) : St (L.map Ent.g) W W L R := ⟨Mv.refl _ _, X.nd, X.blk, fun e he => .inl (List.mem_map_of_mem he), X.rd⟩
theorem St.back (X : St S w0 W L R) (Y : St (L.map Ent.g) W W' L' R') : St S w0 W' L' R' :=
 ⟨X.mv.then Y.mv fun k hk => by
     obtain ⟨e, he, rfl⟩ := List.mem_map.1 hk
     exact X.own e he, Y.nd, Y.blk, fun e he => by
     rcases Y.own e he with h | h
     · obtain ⟨e2, he2, heq⟩ := List.mem_map.1 h
       rw [← heq]; exact X.own e2 he2
     · exact .inr (Nat.le_trans X.mv.size h), Y.rd⟩
theorem St.keepsFrom (X : St S w0 W L R) (Y : St (L.map Ent.g) W W' L' R') (B : Nat) : KeepsFrom B W W' :=
 ⟨Y.mv.size, fun k o _ hk ho => by
  refine (Y.mv.block k (Array.getElem?_eq_some_iff.1 hk).1 fun hm => ?_).trans hk
  obtain ⟨e, he, rfl⟩ := List.mem_map.1 hm
  have := X.blk e he
  unfold Blk at this
  rw [this] at hk
  cases hk
  cases ho⟩
theorem St.other (X : St S w0 W L R) (Y : St (L.map Ent.g) W W' L' R') {D : Nat} {o : Obj} (hD : W.heap[D]? = some o) (ho : o.isCells = false) : W'.heap[D]? = some o := (X.keepsFrom Y 0).same D o (Nat.zero_le _) hD ho
theorem St.putO (X : St S w0 W L R) {l : Nat} {o : Obj} (o' : Obj) (hl : w0.heap.size ≤ l) (ho : W.heap[l]? = some o) (hc : o.isCells = false) (hS : l ∉ S) : St S w0 (W.putObj l o') L R := by
 have hne : ∀ {b : Nat} {cs t f}, W.heap[b]? = some (.cells cs t f) → b ≠ l := fun hb e => by
  rw [e, ho] at hb; cases hb; cases hc
 have hcell : ∀ {b j : Nat} {u : Value}, W.cell? ⟨b, j, none⟩ = some u → (W.putObj l o').cell? ⟨b, j, none⟩ = some u := fun {b j u} h => by
  obtain ⟨q, hq, hw⟩ := not_walk_of_cell h
  have hb : b ≠ l := fun e => by
   subst e
   unfold World.cell? at h
   rw [ho] at h
   cases o <;> simp_all [Obj.isCells]
  rw [← h]
  exact World.cell?_of_block (World.putObj_heap_other hb)
 refine ⟨⟨X.mv.os, X.mv.tape, X.mv.output, by simpa using X.mv.size, fun k hk hn => ?_⟩, X.nd, fun e he => ?_, X.own, fun r hr => ⟨?_, (X.rd r hr).2⟩⟩
 ·rw [World.putObj_heap_other (by omega)]; exact X.mv.block k hk hn
 ·have := X.blk e he
  unfold Blk at this ⊢
  rw [World.putObj_heap_other (hne this)]; exact this
 ·obtain ⟨a, cap, hv, h1, h2, h3⟩ := (X.rd r hr).1
  exact ⟨a, cap, hv, h1, h2, h3.imp id fun ⟨b, off, ha, hc2⟩ => ⟨b, off, ha, fun j u hj => hcell (hc2 j u hj)⟩⟩
end
theorem St.gs6 {S : List Nat} {w0 w : World} {a b c d e f : Nat} {ca cb cc cd ce cf : List Value} {ta tb tc td te tf : TypeId} {L : List Ent} {R : List Rd} (_ : St S w0 w (⟨a, ca, ta⟩ :: ⟨b, cb, tb⟩ :: ⟨c, cc, tc⟩ :: ⟨d, cd, td⟩ :: ⟨e, ce, te⟩ :: ⟨f, cf, tf⟩ :: L) R) : ∃ x1 x2 x3 x4 x5 x6, x1 = a ∧ x2 = b ∧ x3 = c ∧ x4 = d ∧ x5 = e ∧ x6 = f := ⟨_, _, _, _, _, _, rfl, rfl, rfl, rfl, rfl, rfl⟩
theorem St.gs4 {S : List Nat} {w0 w : World} {a b c d : Nat} {ca cb cc cd : List Value} {ta tb tc td : TypeId} {L : List Ent} {R : List Rd} (_ : St S w0 w (⟨a, ca, ta⟩ :: ⟨b, cb, tb⟩ :: ⟨c, cc, tc⟩ :: ⟨d, cd, td⟩ :: L) R) : ∃ x1 x2 x3 x4, x1 = a ∧ x2 = b ∧ x3 = c ∧ x4 = d := ⟨_, _, _, _, rfl, rfl, rfl, rfl⟩
theorem St.front (pre : List Ent) {S : List Nat} {w0 w : World} {x : Ent} {L : List Ent} {R : List Rd} (X : St S w0 w (pre ++ x :: L) R) : St S w0 w (x :: (pre ++ L)) R := X.perm List.perm_middle
theorem St.gs2 {S : List Nat} {w0 w : World} {a b : Nat} {ca cb : List Value} {ta tb : TypeId} {L : List Ent} {R : List Rd} (_ : St S w0 w (⟨a, ca, ta⟩ :: ⟨b, cb, tb⟩ :: L) R) : ∃ x1 x2, x1 = a ∧ x2 = b := ⟨_, _, rfl, rfl⟩
theorem St.gs1 {S : List Nat} {w0 w : World} {a : Nat} {ca : List Value} {ta : TypeId} {L : List Ent} {R : List Rd} (_ : St S w0 w (⟨a, ca, ta⟩ :: L) R) : ∃ x1, x1 = a := ⟨_, rfl⟩
theorem St.less {S : List Nat} {w0 w : World} {L L2 : List Ent} {R R2 : List Rd} (X : St S w0 w L R) (hL : L2.Sublist L) (hR : ∀ r ∈ R2, r ∈ R) : St S w0 w L2 R2 :=
 ⟨X.mv, (hL.map _).nodup X.nd, fun x hx => X.blk x (hL.subset hx), fun x hx => X.own x (hL.subset hx), fun r hr => ⟨(X.rd r (hR r hr)).1, (X.rd r (hR r hr)).2.imp id fun h b hb x hx => h b hb x (hL.subset hx)⟩⟩
theorem own_base {α : Type} {f : α → List Value} {base : Nat} {e : TypeId} {c : Nat} {w : World} {v : Value} {l : List α} (hF : Flat f c) (h : Wb.Own f base e c w v l) (hl : 0 < l.length) : ∃ g cap, v = .slice (some ⟨g, 0, none⟩) l.length cap ∧ l.length ≤ cap ∧ cap ≤ maxLen := by
 obtain ⟨h1, h2⟩ := h
 rcases h2 with ⟨rfl, h0⟩ | ⟨g, cap, cur, rfl, hb, hg, hn, hc, hs, ht⟩
 ·omega
 ·exact ⟨g, cap, rfl, hn, hc⟩
theorem RL.part {α : Type} {f : α → List Value} {c : Nat} (hF : ∀ x, (f x).length = c) {w : World} {b off n cap : Nat} {l : List α} (h : RL f w (.slice (some ⟨b, off, none⟩) n cap) l) (j m : Nat) (hm : j + m ≤ l.length) : RL f w (.slice (some ⟨b, off + j * c, none⟩) m m) ((l.drop j).take m) := by
 obtain ⟨a, cap', hv, h1, h2, h3⟩ := h
 have hl : ((l.drop j).take m).length = m := by rw [List.length_take, List.length_drop]; omega
 refine ⟨_, m, by rw [hl], by rw [hl]; exact Nat.le_refl _, by omega, ?_⟩
 rcases h3 with h3 | ⟨b', off', ha, hc⟩
 ·left
  have h4 := flat_len hF l
  rw [h3, List.length_nil] at h4
  have h5 := flat_len hF ((l.drop j).take m)
  rw [hl] at h5
  have : m * c = 0 := by
   rcases Nat.mul_eq_zero.1 h4.symm with h6 | h6
   ·have : m = 0 := by omega
    rw [this, Nat.zero_mul]
   ·rw [h6, Nat.mul_zero]
  rw [this] at h5
  exact List.length_eq_zero_iff.1 h5
 ·right
  cases hv; cases ha
  refine ⟨b, off + j * c, rfl, fun i u hi => ?_⟩
  rw [Nat.add_assoc]
  apply hc
  have e : l.flatMap f = (l.take j).flatMap f ++ ((l.drop j).take m).flatMap f ++ ((l.drop j).drop m).flatMap f := by
   rw [← List.flatMap_append, ← List.flatMap_append, List.append_assoc, List.take_append_drop, List.take_append_drop]
  have hl2 : ((l.take j).flatMap f).length = j * c := by rw [flat_len hF, List.length_take]; congr 1; omega
  rw [e, List.append_assoc, List.getElem?_append_right (by omega), hl2, Nat.add_sub_cancel_left, List.getElem?_append_left (List.getElem?_eq_some_iff.1 hi).1]
  exact hi
theorem St.partR {S : List Nat} {w0 w : World} {L : List Ent} {R : List Rd} (X : St S w0 w L R) {α : Type} {f : α → List Value} {c : Nat} (hF : ∀ x, (f x).length = c) {b off n cap : Nat} {l : List α} (hR : Rd.of f (.slice (some ⟨b, off, none⟩) n cap) l ∈ R) (j m : Nat) (hm : j + m ≤ l.length) :
    St S w0 w L (Rd.of f (.slice (some ⟨b, off + j * c, none⟩) m m) ((l.drop j).take m) :: R) := by
 obtain ⟨h1, h2⟩ := X.rd _ hR
 refine X.addR (RL.part hF h1 j m hm) ?_
 rcases h2 with h2 | h2
 ·left
  have h3 : l.flatMap f = [] := h2
  have h4 := flat_len hF l
  rw [h3, List.length_nil] at h4
  have h5 := flat_len hF ((l.drop j).take m)
  rw [List.length_take, List.length_drop] at h5
  have : min m (l.length - j) * c = 0 := by
   rcases Nat.mul_eq_zero.1 h4.symm with h6 | h6
   ·have : min m (l.length - j) = 0 := by omega
    rw [this, Nat.zero_mul]
   ·rw [h6, Nat.mul_zero]
  rw [this] at h5
  exact List.length_eq_zero_iff.1 h5
 ·right
  intro b' hb e he
  cases hb
  exact h2 b rfl e he
theorem St.shortR {S : List Nat} {w0 w : World} {L : List Ent} {R : List Rd} (X : St S w0 w L R) {α : Type} {f : α → List Value} {a : Option Addr} {cap : Nat} {l : List α} (hR : Rd.of f (.slice a l.length cap) l ∈ R) : St S w0 w L (Rd.of f (.slice a l.length l.length) l :: R) := by
 obtain ⟨⟨a', c', hv, h1, h3, h4⟩, h2⟩ := X.rd _ hR
 cases hv
 exact X.addR ⟨_, _, rfl, Nat.le_refl _, Nat.le_trans h1 h3, h4⟩ (h2.imp id fun h b hb => h b (by cases a with | none => cases hb | some x => exact hb))
section
variable {P : Program} {fn : Func} {F : Ending → World → Prop} {a : Act} {w w0 : World} {S : List Nat} {L : List Ent} {R : List Rd}
theorem leave0 (h : bodyPost P fn F .ret a w) : bodyPostM FW 0 P fn F .ret a w := by
 obtain ⟨hd, v, h1, h2⟩ := h
 show LeavesInM FW 0 P fn a.tmps F a.defers .returning w
 rw [hd]
 exact ⟨v, h1, h2⟩
theorem leaveD {D : Nat} {ds : List Deferred} {T : Array Value} (hD : w.heap[D]? = some (.deferred (some []))) (h : LeavesInM FW 0 P fn T F ds .returning (w.putObj D (.deferred none))) : LeavesInM FW 0 P fn T F ({ target := .collected D, args := #[] } :: ds) .returning w :=
 ⟨by simp, .inl ⟨_, _, rfl, run_takeDeferred hD, h⟩⟩
theorem m_leave2 {D1 D2 : Nat} {p q r : Tmp} {T : TypeId} (hr : fn.results = #[.cell p T, .tmp q, .tmp r]) {g : Nat} (hp : EvR a (.tmp p) (.pointer (some ⟨g, 0, none⟩))) {v u : Value} (hq : EvR a (.tmp q) v) (hu : EvR a (.tmp r) u) {n : Nat} [hT : AggT P T n] (X : St S w0 w L R)
    {cs : List Value} {t : TypeId} (he : ⟨g, cs, t⟩ ∈ L) (hn : cs.length = n) (hd : a.defers = [{ target := .collected D2, args := #[] }, { target := .collected D1, args := #[] }]) (h1 : w.heap[D1]? = some (.deferred (some []))) (h2 : w.heap[D2]? = some (.deferred (some []))) (h12 : D1 ≠ D2)
    (s1 : w0.heap.size ≤ D1) (s2 : w0.heap.size ≤ D2) (n1 : D1 ∉ S) (n2 : D2 ∉ S) (h : ∀ w', St S w0 w' L R → F (.returned (.tuple #[.agg cs.toArray, v, u])) w') : bodyPostM FW 0 P fn F .ret a w := by
 have hp' : a.tmps[p]?.getD undef = .pointer (some ⟨g, 0, none⟩) := by have := hp.eval; simpa [Act.eval] using this
 have hq' : a.tmps[q]?.getD undef = v := by have := hq.eval; simpa [Act.eval] using this
 have hu' : a.tmps[r]?.getD undef = u := by have := hu.eval; simpa [Act.eval] using this
 have h1' : (w.putObj D2 (.deferred none)).heap[D1]? = some (.deferred (some [])) := (World.putObj_heap_other h12).trans h1
 have X2 := (X.putO (.deferred none) s2 h2 rfl n2).putO (.deferred none) s1 h1' rfl n1
 show LeavesInM FW 0 P fn a.tmps F a.defers .returning w
 rw [hd]
 refine leaveD h2 (leaveD h1' ⟨.tuple #[.agg cs.toArray, v, u], ?_, h _ X2⟩)
 simp [results, hr, hp', hq', hu', asAddr, X2.whole (T := T) he hn]
def leavePost (P : Program) (fn : Func) (F : Ending → World → Prop) : Exit → Act → World → Prop
 | .ret, a, w => bodyPostM FW 0 P fn F .ret a w
 | .normal, a, w => bodyPostM FW 0 P fn F .normal a w
 | _, _, _ => False
theorem calls_marks {f : FuncId} {c : Code} {args : Array Value} {R : Ending → World → Prop} (hf : P.funcs[f]? = some fn) (hb : fn.body = some c)
    (h : c.wp P (leavePost P fn R) { tmps := args ++ Array.replicate (fn.ntmps - args.size) undef, defers := [] } w) : Calls P f args w R :=
 (callsIn_wide (n := 0)).1 (callsIn_of_wp_marks hf hb trivial ((wpIn_wide (n := 0)).2 (wp_mono h fun e a w hq => by cases e <;> first | exact hq | exact hq.elim)) rfl)
end
def chunkN (n len : Nat) : Nat := (len + n - 1) / n
theorem chunkN_lt {n len k : Nat} (hn : 0 < n) : k < chunkN n len ↔ k * n < len := by
 unfold chunkN
 rw [Nat.lt_iff_add_one_le, Nat.le_div_iff_mul_le hn, Nat.succ_mul]
 omega
def chunkV (b off c n len k : Nat) : Value := .slice (some ⟨b, off + k * n * c, none⟩) (min n (len - k * n)) (min n (len - k * n))
def chunkL (b off c n len : Nat) : List Value := (List.range (chunkN n len)).map (chunkV b off c n len)
end Wb
namespace Go.Proofs.YtjhmfljlclajnaaGreatDoor
open Go.RowKit Wb
set_option maxRecDepth 100000
set_option maxHeartbeats 8000000
attribute [local go_sem] Oper.semAt_some
theorem chunkC_iter (b off cap len n gs gn : Nat) (hn : 0 < n) (h1 : n ≤ 1000) (h2 : len ≤ 1000000) (hc : len ≤ cap) (w : World) (hs : w.cell? ⟨gs, 0, none⟩ = some (.slice (some ⟨b, off, none⟩) len cap)) (hk : w.cell? ⟨gn, 0, none⟩ = some (.int .i64 n)) :
    Iter Tryz.prog 98 #[.pointer (some ⟨gs, 0, none⟩), .pointer (some ⟨gn, 0, none⟩)] (chunkL b off 2 n len) [gs, gn] w := by
 intro l J W hB hJ hY h0
 have hxl : (chunkL b off 2 n len).length = chunkN n len := by simp [chunkL]
 have hlt := fun k => chunkN_lt (len := len) (k := k) hn
 have hsW : W.cell? ⟨gs, 0, none⟩ = some (.slice (some ⟨b, off, none⟩) len cap) := (World.cell?_of_block (hB gs (by simp))).trans hs
 have hnW : W.cell? ⟨gn, 0, none⟩ = some (.int .i64 n) := (World.cell?_of_block (hB gn (by simp))).trans hk
 have hY' : ∀ k, k < chunkN n len → ∀ A, J k A → YieldAt FW 0 Tryz.prog l #[chunkV b off 2 n len k] A fun e A' => e = .returned (.bool true) ∧ J (k + 1) A' ∧ A.heap.size ≤ A'.heap.size ∧ ∀ b ∈ [gs, gn], A'.heap[b]? = A.heap[b]? := fun k hk A hA => by
  have := hY k (by rw [hxl]; exact hk) A hA
  simpa [chunkL] using this
 rw [hxl]
 clear hY
 have hY := hY'
 clear hY' hxl
 replace hJ := hid hJ; replace hY := hid hY; replace hlt := hid hlt
 clear hB hs hk
 refine callsIn_of_wp Tryz.func98 rfl trivial ?_ rfl
 simp only [Tryz.ntmps98, List.size_toArray, List.length_cons, List.length_nil, Nat.reduceAdd, Nat.reduceSub, Array.replicate_succ, Array.replicate_zero, List.push_toArray, List.append_toArray, List.nil_append, List.cons_append]
 gi_wp2
 gi_loopw [4] (fun i wr => ∃ k : Nat, k ≤ chunkN n len ∧ i = .int .i64 ((k * n : Nat) : Int) ∧ J k wr ∧ wr.cell? ⟨gs, 0, none⟩ = some (.slice (some ⟨b, off, none⟩) len cap) ∧ wr.cell? ⟨gn, 0, none⟩ = some (.int .i64 n)) (fun i _ => len + n - (intOf i).toNat)
 case atStart => exact ⟨0, Nat.zero_le _, by simp, h0, hsW, hnW⟩
 case round =>
  clear hsW hnW
  obtain ⟨k, hk, rfl, hJk, hs, hn2⟩ := hrel
  by_cases hkl : k * n < len
  ·have hkN := (hlt.out k).2 hkl
   have q1 : (k : Int) * (n : Int) < (len : Int) := by exact_mod_cast hkl
   gi_wp2
   refine (wpIn_wide (n := 0)).2 ?_
   go_region
   obtain ⟨fn, tmps, assign, body, hy, hR⟩ := hY.out k hkN wr.drew (hJ.out _ _ _ hJk (b0 wr).drew)
   simp only [chunkV, Nat.mul_one] at hy
   obtain ⟨m, hm⟩ : ∃ m, m = min n (len - k * n) := ⟨_, rfl⟩
   have hif : (if len - k * n < n then ((len - k * n : Nat) : Int) else (n : Int)) = (m : Int) := by
    rw [hm]; split <;> omega
   first
    | rw [hif]
    | rw [show min (n : Int) ((len - k * n : Nat) : Int) = (m : Int) by rw [hm]; omega]
   rw [← hm] at hy
   have m1 : k * n + m ≤ len := by omega
   have m2 : k * n + m ≤ cap := by omega
   have m3 : ¬ m = 0 := by omega
   have hs2 : wr.drew.cell? ⟨gs, 0, none⟩ = some (.slice (some ⟨b, off, none⟩) len cap) := hs
   have hn3 : wr.drew.cell? ⟨gn, 0, none⟩ = some (.int .i64 n) := hn2
   clear hif hm
   generalize wr.drew = wd at *
   gi_wp2
   refine ⟨rfl, hR.mono ?_⟩
   rintro e W3 ⟨rfl, hJ3, hz3, hB3⟩
   have hs3 := (World.cell?_of_block (w := wd) (a := ⟨gs, 0, none⟩) (hB3 gs (by simp))).trans hs2
   have hn4 := (World.cell?_of_block (w := wd) (a := ⟨gn, 0, none⟩) (hB3 gn (by simp))).trans hn3
   gi_wp2
   go_roundw
   case rel => exact ⟨k + 1, by omega, by rw [Nat.succ_mul]; simp, hJ3, hs3, hn4⟩
   case measure => simp [intOf]; omega
  ·obtain rfl : k = chunkN n len := Nat.le_antisymm hk (Nat.le_of_not_lt fun h => hkl ((hlt.out k).1 h))
   have q1 : ¬ ((chunkN n len : Nat) : Int) * (n : Int) < (len : Int) := by exact_mod_cast hkl
   gi_wp2
   go_end0
   exact ⟨⟨_, rfl⟩, hJk⟩
theorem chunkC_nil (a : Option Addr) (cap gs gn : Nat) (n : Int) (w : World) (hs : w.cell? ⟨gs, 0, none⟩ = some (.slice a 0 cap)) (hk : w.cell? ⟨gn, 0, none⟩ = some (.int .i64 n)) :
    Iter Tryz.prog 98 #[.pointer (some ⟨gs, 0, none⟩), .pointer (some ⟨gn, 0, none⟩)] [] [gs, gn] w := by
 intro l J W hB hJ hY h0
 have hsW : W.cell? ⟨gs, 0, none⟩ = some (.slice a 0 cap) := (World.cell?_of_block (hB gs (by simp))).trans hs
 clear hB hs hk hY hJ
 refine callsIn_of_wp Tryz.func98 rfl trivial ?_ rfl
 simp only [Tryz.ntmps98, List.size_toArray, List.length_cons, List.length_nil, Nat.reduceAdd, Nat.reduceSub, Array.replicate_succ, Array.replicate_zero, List.push_toArray, List.append_toArray, List.nil_append, List.cons_append]
 gi_wp2
 gi_loopw [4] (fun i wr => i = .int .i64 0 ∧ J 0 wr ∧ wr.cell? ⟨gs, 0, none⟩ = some (.slice a 0 cap)) (fun _ _ => 0)
 case atStart => exact ⟨rfl, h0, hsW⟩
 case round =>
  clear hsW
  obtain ⟨rfl, hJk, hs⟩ := hrel
  gi_wp2
  go_end0
  exact ⟨⟨_, rfl⟩, hJk⟩
theorem chunkC (a : Option Addr) (len cap n : Nat) (nI : Int) (hI : nI = n) (hn : 0 < n) (h2 : n ≤ 1000) {S : List Nat} {w0 w : World} {L : List Ent} {R : List Rd} (X : St S w0 w L R) :
    Calls Tryz.prog 70 #[.slice a len cap, .int .i64 nI] w fun e w' => ∃ gs gn, e = .returned (.func (.func 98) #[] #[.pointer (some ⟨gs, 0, none⟩), .pointer (some ⟨gn, 0, none⟩)]) ∧ St S w0 w' (⟨gn, [.int .i64 n], 3⟩ :: ⟨gs, [.slice a len cap], 48⟩ :: L) R := by
 subst hI
 have q : ¬ ((n : Int) < 1) := by omega
 go_enter Tryz.func70, Tryz.ntmps70
 go_wp2_with (first
  | (refine ZcL ?_) | (refine ZcS ?_; clear X; intro w X) | (refine ZcA ?_; clear X; intro g w X))
 go_ret
 exact ⟨_, _, rfl, X⟩
theorem chunkI_iter (b off cap len n gs gn : Nat) (hn : 0 < n) (h1 : n ≤ 1000) (h2 : len ≤ 1000000) (hc : len ≤ cap) (w : World) (hs : w.cell? ⟨gs, 0, none⟩ = some (.slice (some ⟨b, off, none⟩) len cap)) (hk : w.cell? ⟨gn, 0, none⟩ = some (.int .i64 n)) :
    Iter Tryz.prog 97 #[.pointer (some ⟨gs, 0, none⟩), .pointer (some ⟨gn, 0, none⟩)] (chunkL b off 1 n len) [gs, gn] w := by
 intro l J W hB hJ hY h0
 have hxl : (chunkL b off 1 n len).length = chunkN n len := by simp [chunkL]
 have hlt := fun k => chunkN_lt (len := len) (k := k) hn
 have hsW : W.cell? ⟨gs, 0, none⟩ = some (.slice (some ⟨b, off, none⟩) len cap) := (World.cell?_of_block (hB gs (by simp))).trans hs
 have hnW : W.cell? ⟨gn, 0, none⟩ = some (.int .i64 n) := (World.cell?_of_block (hB gn (by simp))).trans hk
 have hY' : ∀ k, k < chunkN n len → ∀ A, J k A → YieldAt FW 0 Tryz.prog l #[chunkV b off 1 n len k] A fun e A' => e = .returned (.bool true) ∧ J (k + 1) A' ∧ A.heap.size ≤ A'.heap.size ∧ ∀ b ∈ [gs, gn], A'.heap[b]? = A.heap[b]? := fun k hk A hA => by
  have := hY k (by rw [hxl]; exact hk) A hA
  simpa [chunkL] using this
 rw [hxl]
 clear hY
 have hY := hY'
 clear hY' hxl
 replace hJ := hid hJ; replace hY := hid hY; replace hlt := hid hlt
 clear hB hs hk
 refine callsIn_of_wp Tryz.func97 rfl trivial ?_ rfl
 simp only [Tryz.ntmps97, List.size_toArray, List.length_cons, List.length_nil, Nat.reduceAdd, Nat.reduceSub, Array.replicate_succ, Array.replicate_zero, List.push_toArray, List.append_toArray, List.nil_append, List.cons_append]
 gi_wp2
 gi_loopw [4] (fun i wr => ∃ k : Nat, k ≤ chunkN n len ∧ i = .int .i64 ((k * n : Nat) : Int) ∧ J k wr ∧ wr.cell? ⟨gs, 0, none⟩ = some (.slice (some ⟨b, off, none⟩) len cap) ∧ wr.cell? ⟨gn, 0, none⟩ = some (.int .i64 n)) (fun i _ => len + n - (intOf i).toNat)
 case atStart => exact ⟨0, Nat.zero_le _, by simp, h0, hsW, hnW⟩
 case round =>
  clear hsW hnW
  obtain ⟨k, hk, rfl, hJk, hs, hn2⟩ := hrel
  by_cases hkl : k * n < len
  ·have hkN := (hlt.out k).2 hkl
   have q1 : (k : Int) * (n : Int) < (len : Int) := by exact_mod_cast hkl
   gi_wp2
   refine (wpIn_wide (n := 0)).2 ?_
   go_region
   obtain ⟨fn, tmps, assign, body, hy, hR⟩ := hY.out k hkN wr.drew (hJ.out _ _ _ hJk (b0 wr).drew)
   simp only [chunkV, Nat.mul_one] at hy
   obtain ⟨m, hm⟩ : ∃ m, m = min n (len - k * n) := ⟨_, rfl⟩
   have hif : (if len - k * n < n then ((len - k * n : Nat) : Int) else (n : Int)) = (m : Int) := by
    rw [hm]; split <;> omega
   first
    | rw [hif]
    | rw [show min (n : Int) ((len - k * n : Nat) : Int) = (m : Int) by rw [hm]; omega]
   rw [← hm] at hy
   have m1 : k * n + m ≤ len := by omega
   have m2 : k * n + m ≤ cap := by omega
   have m3 : ¬ m = 0 := by omega
   have hs2 : wr.drew.cell? ⟨gs, 0, none⟩ = some (.slice (some ⟨b, off, none⟩) len cap) := hs
   have hn3 : wr.drew.cell? ⟨gn, 0, none⟩ = some (.int .i64 n) := hn2
   clear hif hm
   generalize wr.drew = wd at *
   gi_wp2
   refine ⟨rfl, hR.mono ?_⟩
   rintro e W3 ⟨rfl, hJ3, hz3, hB3⟩
   have hs3 := (World.cell?_of_block (w := wd) (a := ⟨gs, 0, none⟩) (hB3 gs (by simp))).trans hs2
   have hn4 := (World.cell?_of_block (w := wd) (a := ⟨gn, 0, none⟩) (hB3 gn (by simp))).trans hn3
   gi_wp2
   go_roundw
   case rel => exact ⟨k + 1, by omega, by rw [Nat.succ_mul]; simp, hJ3, hs3, hn4⟩
   case measure => simp [intOf]; omega
  ·obtain rfl : k = chunkN n len := Nat.le_antisymm hk (Nat.le_of_not_lt fun h => hkl ((hlt.out k).1 h))
   have q1 : ¬ ((chunkN n len : Nat) : Int) * (n : Int) < (len : Int) := by exact_mod_cast hkl
   gi_wp2
   go_end0
   exact ⟨⟨_, rfl⟩, hJk⟩
theorem chunkI_nil (a : Option Addr) (cap gs gn : Nat) (n : Int) (w : World) (hs : w.cell? ⟨gs, 0, none⟩ = some (.slice a 0 cap)) (hk : w.cell? ⟨gn, 0, none⟩ = some (.int .i64 n)) :
    Iter Tryz.prog 97 #[.pointer (some ⟨gs, 0, none⟩), .pointer (some ⟨gn, 0, none⟩)] [] [gs, gn] w := by
 intro l J W hB hJ hY h0
 have hsW : W.cell? ⟨gs, 0, none⟩ = some (.slice a 0 cap) := (World.cell?_of_block (hB gs (by simp))).trans hs
 clear hB hs hk hY hJ
 refine callsIn_of_wp Tryz.func97 rfl trivial ?_ rfl
 simp only [Tryz.ntmps97, List.size_toArray, List.length_cons, List.length_nil, Nat.reduceAdd, Nat.reduceSub, Array.replicate_succ, Array.replicate_zero, List.push_toArray, List.append_toArray, List.nil_append, List.cons_append]
 gi_wp2
 gi_loopw [4] (fun i wr => i = .int .i64 0 ∧ J 0 wr ∧ wr.cell? ⟨gs, 0, none⟩ = some (.slice a 0 cap)) (fun _ _ => 0)
 case atStart => exact ⟨rfl, h0, hsW⟩
 case round =>
  clear hsW
  obtain ⟨rfl, hJk, hs⟩ := hrel
  gi_wp2
  go_end0
  exact ⟨⟨_, rfl⟩, hJk⟩
theorem chunkI (a : Option Addr) (len cap n : Nat) (nI : Int) (hI : nI = n) (hn : 0 < n) (h2 : n ≤ 1000) {S : List Nat} {w0 w : World} {L : List Ent} {R : List Rd} (X : St S w0 w L R) :
    Calls Tryz.prog 69 #[.slice a len cap, .int .i64 nI] w fun e w' => ∃ gs gn, e = .returned (.func (.func 97) #[] #[.pointer (some ⟨gs, 0, none⟩), .pointer (some ⟨gn, 0, none⟩)]) ∧ St S w0 w' (⟨gn, [.int .i64 n], 3⟩ :: ⟨gs, [.slice a len cap], 49⟩ :: L) R := by
 subst hI
 have q : ¬ ((n : Int) < 1) := by omega
 go_enter Tryz.func69, Tryz.ntmps69
 go_wp2_with (first
  | (refine ZcL ?_) | (refine ZcS ?_; clear X; intro w X) | (refine ZcA ?_; clear X; intro g w X))
 go_ret
 exact ⟨_, _, rfl, X⟩
end Go.Proofs.YtjhmfljlclajnaaGreatDoor
namespace Wb
open Go Go.RowKit
def logS (r : Ring) (t : Txn) (j : Nat) : List Stp := List.zipWith atW (places r.head j) ((logT t).take j)
theorem logS_zero (r : Ring) (t : Txn) : logS r t 0 = [] := rfl
theorem logS_succ {r : Ring} {t : Txn} {j : Nat} {s : ByteArray} (h : (logT t)[j]? = some s) : logS r t (j + 1) = logS r t j ++ [atW ((r.head + j) % 24) s] := by
 obtain ⟨hj, hs⟩ := List.getElem?_eq_some_iff.1 h
 unfold logS
 rw [places_succ, List.take_succ_eq_append_getElem hj, hs, List.zipWith_append (by rw [places_len, List.length_take]; omega)]
 rfl
theorem logS_len {r : Ring} {t : Txn} {j : Nat} (h : j ≤ (logT t).length) : (logS r t j).length = j := by
 unfold logS
 rw [List.length_zipWith, places_len, List.length_take]; omega
theorem logT_len (t : Txn) : (logT t).length = (bodyT t).length + 1 := by unfold logT; rw [List.length_append]; rfl
theorem logS_body (r : Ring) (t : Txn) : logS r t (bodyT t).length = List.zipWith atW (places r.head (bodyT t).length) (bodyT t) := by
 unfold logS logT
 rw [List.take_append_of_le_length (Nat.le_refl _), List.take_length]
def partJ (t : Txn) (k : Nat) : Nat := (revL t.seq t.rev).length + (if k = 0 then 0 else if k = 1 then (partL t.seq (t.mt.take 10)).length else (partL t.seq (t.mt.take 10)).length + (partL t.seq (t.mt.drop 10)).length)
def partM (t : Txn) (k : Nat) : List Cpy := (t.mt.drop (k * 10)).take 10
theorem revL_len (q : Int) (r : List Int) : (revL q r).length = if r = [] then 0 else 1 := by unfold revL; split <;> rfl
theorem partM0 (t : Txn) : partM t 0 = t.mt.take 10 := rfl
theorem partM1 {t : Txn} (h : t.mt.length ≤ 12) : partM t 1 = t.mt.drop 10 := by
 unfold partM
 rw [List.take_of_length_le (by rw [List.length_drop]; omega)]
theorem logT_rev {t : Txn} (h : t.rev ≠ []) : (logT t)[0]? = some (markS (listM t.seq t.rev)) := by
 unfold logT bodyT revL
 rw [if_neg h]; rfl
theorem logT_part {t : Txn} (hm : t.mt.length ≤ 12) {k i : Nat} (hk : k < 2) {s : ByteArray} (h : (partL t.seq (partM t k))[i]? = some s) : (logT t)[partJ t k + i]? = some s := by
 unfold logT bodyT partJ
 rw [List.getElem?_append_left]
 ·rw [Nat.add_assoc, List.getElem?_append_right (Nat.le_add_right _ _), Nat.add_sub_cancel_left]
  obtain rfl | rfl : k = 0 ∨ k = 1 := by omega
  ·rw [if_pos rfl, Nat.zero_add, ← partM0]
   rw [List.getElem?_append_left (List.getElem?_eq_some_iff.1 h).1]; exact h
  ·rw [if_neg (by decide), if_pos rfl, List.getElem?_append_right (Nat.le_add_right _ _), Nat.add_sub_cancel_left, ← partM1 hm]; exact h
 ·have := (List.getElem?_eq_some_iff.1 h).1
  rw [List.length_append, List.length_append]
  obtain rfl | rfl : k = 0 ∨ k = 1 := by omega
  ·rw [partM0] at this; rw [if_pos rfl]; omega
  ·rw [partM1 hm] at this; rw [if_neg (by decide), if_pos rfl]; omega
theorem partL_head {q : Int} {p : List Cpy} (h : p ≠ []) : (partL q p)[0]? = some (markS (descM q p)) := by unfold partL; rw [if_neg h]; rfl
theorem partL_copy {q : Int} {p : List Cpy} {i : Nat} (h : i < p.length) : (partL q p)[1 + i]? = some (escS p[i].text) := by
 unfold partL
 rw [if_neg (by intro e; subst e; exact absurd h (Nat.not_lt_zero _)), Nat.add_comm, List.getElem?_cons_succ, List.getElem?_map]
 simp [h]
theorem partJ_next {t : Txn} (hm : t.mt.length ≤ 12) {k : Nat} (hk : k * 10 < t.mt.length) : partJ t (k + 1) = partJ t k + (1 + (partM t k).length) := by
 have hk2 : k < 2 := by omega
 unfold partJ
 obtain rfl | rfl : k = 0 ∨ k = 1 := by omega
 ·rw [if_neg (by decide), if_pos rfl, if_pos rfl, partL_len, partM0, if_neg]
  ·omega
  ·intro h
   have := congrArg List.length h
   rw [List.length_take] at this
   rw [List.length_nil] at this; omega
 ·rw [if_neg (by decide), if_neg (by decide), if_neg (by decide), if_pos rfl, partL_len t.seq (t.mt.drop 10), partM1 hm, if_neg]
  ·omega
  ·intro h
   have := congrArg List.length h
   rw [List.length_drop] at this
   rw [List.length_nil] at this; omega
theorem partM_len {t : Txn} (k : Nat) : (partM t k).length = min 10 (t.mt.length - k * 10) := by unfold partM; rw [List.length_take, List.length_drop]
theorem bodyT_end {t : Txn} (hm : t.mt.length ≤ 12) : (bodyT t).length = partJ t (chunkN 10 t.mt.length) := by
 have h2 : (t.mt.drop 10 = []) ↔ t.mt.length ≤ 10 := by rw [← List.length_eq_zero_iff, List.length_drop]; omega
 have hc : chunkN 10 t.mt.length = if t.mt.length = 0 then 0 else if t.mt.length ≤ 10 then 1 else 2 := by
  unfold chunkN
  split
  ·omega
  ·split <;> omega
 rw [hc]
 unfold bodyT partJ
 rw [List.length_append, List.length_append]
 by_cases h0 : t.mt.length = 0
 ·rw [if_pos h0, if_pos rfl]
  have e : t.mt = [] := List.length_eq_zero_iff.1 h0
  rw [e]; rfl
 ·rw [if_neg h0]
  by_cases h1 : t.mt.length ≤ 10
  ·rw [if_pos h1, if_neg (by decide), if_pos rfl, h2.2 h1]
   have : (partL t.seq []).length = 0 := rfl
   rw [this]; omega
  ·rw [if_neg h1, if_neg (by decide), if_neg (by decide)]
theorem partJ_bound {t : Txn} (hm : t.mt.length ≤ 12) {k : Nat} (hk : k * 10 < t.mt.length) : partJ t k + (1 + (partM t k).length) ≤ (bodyT t).length := by
 rw [bodyT_end hm]
 have h1 := partJ_next hm hk
 have hc := fun j => chunkN_lt (n := 10) (len := t.mt.length) (k := j) (by decide)
 have hk1 := (hc k).2 hk
 have h2 := hc (k + 1)
 have h3 := hc (k + 2)
 by_cases hk2 : (k + 1) * 10 < t.mt.length
 ·have h4 := partJ_next hm hk2
  have : chunkN 10 t.mt.length = k + 1 + 1 := by omega
  rw [this, h4, h1]; omega
 ·have : chunkN 10 t.mt.length = k + 1 := by omega
  rw [this, h1]; omega
theorem partJ_low {t : Txn} (hm : t.mt.length ≤ 12) : partJ t 0 ≤ (bodyT t).length := by
 by_cases hz : 0 < t.mt.length
 ·have := partJ_bound hm (k := 0) (by omega); omega
 ·have : chunkN 10 t.mt.length = 0 := by unfold chunkN; omega
  rw [bodyT_end hm, this]; exact Nat.le_refl _
theorem dataS_len {t : Txn} (h : t.dt.length ≤ 12) : (dataS t).length ≤ 13 := by
 unfold dataS
 rw [List.length_append, List.length_map]
 have : (if t.dt = [] then ([] : List Stp) else [flushS]).length ≤ 1 := by split <;> simp
 omega
theorem comL_eq {r : Ring} {t : Txn} (h : comE r t = 0) : comL r t = dataS t ++ (logS r t (bodyT t).length ++ ((if (bodyT t).length = 0 then [] else [flushS]) ++ [atW ((r.head + ((bodyT t).length : Int)) % 24) (markS (comM t.seq)), flushS])) := by
 unfold comL
 rw [if_pos h, logS_body]
 congr 3
 by_cases hz : bodyT t = []
 ·rw [if_pos hz, if_pos (by rw [hz]; rfl)]
 ·rw [if_neg hz, if_neg (by rw [List.length_eq_zero_iff]; exact hz)]
theorem dataS_eq (t : Txn) : t.dt.map goS ++ (if 0 < t.dt.length then [flushS] else []) = dataS t := by
 unfold dataS
 congr 1
 by_cases h : t.dt = []
 ·rw [if_pos h, if_neg (by rw [h]; decide)]
 ·rw [if_neg h, if_pos (List.length_pos_iff.2 h)]
structure ComF (r : Ring) (t : Txn) (nb : Nat) (DS : List Stp) (LS : Nat → List Stp) (pj : Nat → Nat) (pm : Nat → List Cpy) : Prop where
 l0 : LS 0 = []
 lr : t.rev ≠ [] → LS 1 = LS 0 ++ [atW ((r.head + ((0 : Nat) : Int)) % 24) (markS (listM t.seq t.rev))]
 lp : ∀ k, k * 10 < t.mt.length → ∀ i s, (partL t.seq (pm k))[i]? = some s → LS (pj k + i + 1) = LS (pj k + i) ++ [atW ((r.head + ((pj k + i : Nat) : Int)) % 24) s]
 j0 : pj 0 = (revL t.seq t.rev).length
 jn : ∀ k, k * 10 < t.mt.length → pj (k + 1) = pj k + (1 + (pm k).length)
 je : nb = pj (chunkN 10 t.mt.length)
 ml : ∀ k, (pm k).length = min 10 (t.mt.length - k * 10)
 md : ∀ k, pm k = (t.mt.drop (k * 10)).take 10
 ll : ∀ j, j ≤ nb + 1 → (LS j).length = j
 dl : DS.length ≤ 13
 cd : comL r t = DS ++ (LS nb ++ ((if nb = 0 then [] else [flushS]) ++ [atW ((r.head + (nb : Int)) % 24) (markS (comM t.seq)), flushS]))
 ds : t.dt.map goS ++ (if 0 < t.dt.length then [flushS] else []) = DS
 bk : ∀ k, k * 10 < t.mt.length → pj k + (1 + (pm k).length) ≤ nb
 b0 : pj 0 ≤ nb
theorem comF {r : Ring} {t : Txn} (hm : t.mt.length ≤ 12) (hd : t.dt.length ≤ 12) (hc : comE r t = 0) : ∃ DS LS pj pm, ComF r t (bodyT t).length DS LS pj pm :=
 ⟨dataS t, logS r t, partJ t, partM t, logS_zero r t, fun h => logS_succ (j := 0) (logT_rev h), fun k hk i s hs => logS_succ (logT_part hm (by omega) hs), rfl, fun k hk => partJ_next hm hk, bodyT_end hm, partM_len, fun _ => rfl,
  fun j hj => logS_len (by rw [logT_len]; exact hj), dataS_len hd, comL_eq hc, dataS_eq t, fun k hk => partJ_bound hm hk, partJ_low hm⟩
end Wb
namespace Go.Proofs.YtjhmfljlclajnaaGreatDoor
open Go.RowKit Wb
set_option maxRecDepth 100000
set_option maxHeartbeats 8000000
theorem seal_write (p : Int) (s : ByteArray) (w : World) :
    Calls Tryz.prog 60 #[.int .i64 p, .string s] w fun e w' => e = .returned (.agg #[.int .i64 1, .int .i64 p, .string s]) ∧ Below w.heap.size w w' := by
 have X := St.start [] w
 go_enter Tryz.func60, Tryz.ntmps60
 go_wp2_with (first
  | (refine ZcL ?_) | (refine ZcS ?_; clear X; intro w X) | (refine ZcA ?_; clear X; intro g w X))
 exact m_ret1 rfl (.tmp rfl rfl) X (.head _) rfl rfl ⟨rfl, X.below⟩
end Go.Proofs.YtjhmfljlclajnaaGreatDoor
namespace Wb
open Go Go.RowKit
theorem back_rev {l : List Txn} (hg : ∀ t ∈ l, goodT t = true) {j : Nat} (hj : j < l.length) {b : Int} (h : inI l[j].rev b = true) : newestB (l.take (j + 1)) b = none := by
 rw [List.take_succ_eq_append_getElem hj, newestB_back]
 have g := hg _ (List.getElem_mem hj)
 have h1 : getC l[j].mt b = none := by
  cases hc : getC l[j].mt b with
  | none => rfl
  | some s =>
   exfalso
   have h2 : hasB l[j].mt b = true := by rw [hasB_get, hc]; rfl
   obtain ⟨c, hc1, hc2⟩ := List.any_eq_true.1 h2
   obtain ⟨k, hk, rfl⟩ := List.mem_iff_getElem.1 hc1
   have := (good_meta g hk).1
   rw [beq_iff_eq.1 hc2, h] at this
   cases this
 rw [h1, h]
 rfl
theorem back_get {l : List Txn} {j : Nat} (hj : j < l.length) {b : Int} {s : ByteArray} (h : getC l[j].mt b = some s) : newestB (l.take (j + 1)) b = some s := by
 rw [List.take_succ_eq_append_getElem hj, newestB_back, h]
theorem back_no {l : List Txn} {j : Nat} (hj : j < l.length) {b : Int} (h1 : inI l[j].rev b = false) (h : getC l[j].mt b = none) : newestB (l.take (j + 1)) b = newestB (l.take j) b := by
 rw [List.take_succ_eq_append_getElem hj, newestB_back, h, h1]
 rfl
theorem viewN_none {f : Int → Option ByteArray} {n : Nat} (h : f n = none) : viewN f (n + 1) = viewN f n := by rw [viewN_succ, h]; simp
theorem viewN_some {f : Int → Option ByteArray} {n : Nat} {s : ByteArray} (h : f n = some s) : viewN f (n + 1) = viewN f n ++ [⟨n, s⟩] := by rw [viewN_succ, h]; rfl
theorem OwnM.own {α : Type} {f : α → List Value} {e : TypeId} {c : Nat} {v : Value} {l : List α} {M L T : List Ent} {w0 w : World} {R : List Rd} (hF : Flat f c) (h : OwnM f e c v l M) (X : St [] w0 w (L ++ (M ++ T)) R) : Own f w0.heap.size e c w v l := by
 rcases h with ⟨rfl, rfl, rfl⟩ | ⟨g, cap, rest, rfl, h1, h2, h3, rfl⟩
 ·exact Own.nil _ _ _ _ _
 ·have hk := X.blk ⟨g, l.flatMap f ++ rest, e⟩ (by simp)
  have ho := X.own ⟨g, l.flatMap f ++ rest, e⟩ (by simp)
  refine ⟨flat_len hF.len l, .inr ⟨g, cap, _, rfl, ho.resolve_left (fun h => by cases h), hk, h1, h2, ?_, ?_⟩⟩
  ·simpa using h3
  ·rw [← flat_len hF.len l]; simp
end Wb
namespace Go.Proofs.YtjhmfljlclajnaaGreatDoor
open Go.RowKit Wb
set_option maxRecDepth 100000
set_option maxHeartbeats 8000000
theorem seal_Newest (l : List Txn) (hg : ∀ t ∈ l, goodT t = true) (v : Value) (w : World) (h : RTxns w v l) :
    Calls Tryz.prog 39 #[v] w fun e w' => ∃ v', e = .returned v' ∧ Wb.Own cpyC w.heap.size 138 2 w' v' (newestL l) ∧ Below w.heap.size w w' := by
 obtain ⟨a, cap, rfl, hl⟩ := h.form
 have hbr := fun j (hj : j < l.length) b => back_rev hg hj (b := b)
 have hbg := fun j (hj : j < l.length) b s => back_get (l := l) hj (b := b) (s := s)
 have hbn := fun j (hj : j < l.length) b => back_no (l := l) hj (b := b)
 have hvn := fun k => viewN_none (f := newestB l) (n := k)
 have hvs := fun k s => viewN_some (f := newestB l) (n := k) (s := s)
 have hvl := fun k => viewN_len (newestB l) k
 have hz : ∀ b, newestB (l.take 0) b = none := fun b => rfl
 have hfu : l.take l.length = l := List.take_length
 have hrl := fun k (hk : k < l.length) => lens (goodT_of.1 (hg _ (List.getElem_mem hk)))
 have hnl : newestL l = viewN (newestB l) 12 := rfl
 have hv0 : viewN (newestB l) 0 = [] := rfl
 rw [hnl]
 replace h := hid h; replace hbr := hid hbr; replace hbg := hid hbg; replace hbn := hid hbn; replace hvn := hid hvn; replace hvs := hid hvs; replace hvl := hid hvl; replace hz := hid hz; replace hfu := hid hfu; replace hrl := hid hrl; replace hv0 := hid hv0
 clear hnl hg
 go_enter Tryz.func39, Tryz.ntmps39
 go_wp2
 go_loopw [3, 8] (fun o i wr => ∃ (k : Nat) (M : List Ent), k ≤ 12 ∧ i = .int .i64 k ∧ OwnM cpyC 138 2 o (viewN (newestB l) k) M ∧ St [] w wr (M ++ []) []) (fun _ i _ => 12 - (intOf i).toNat)
 case atStart => exact ⟨0, [], by decide, rfl, by rw [hv0.out]; exact OwnM.nil _ _ _, St.start [] w⟩
 case round =>
  obtain ⟨k, M, hk, rfl, hO, X⟩ := hrel
  by_cases hlt : k < 12
  ·have hvk := hvl.out k
   have hk12 : (k : Int) < 12 := by omega
   obtain ⟨ao, co, rfl⟩ := hO.form
   go_upto_block 1 with fail
   go_cut [3] (fun o wx => ∃ M, OwnM cpyC 138 2 o (viewN (newestB l) (k + 1)) M ∧ St [] w wx (M ++ []) [])
   case first =>
    go_wp2
    go_loopw [3, 5] (fun o i wr => ∃ j : Nat, j ≤ l.length ∧ i = .int .i64 ((j : Int) - 1) ∧ o = .slice ao (viewN (newestB l) k).length co ∧ Hid (newestB l k = newestB (l.take j) k) ∧ St [] w wr (M ++ []) []) (fun _ i _ => (intOf i + 1).toNat)
    case atStart => exact ⟨l.length, Nat.le_refl _, rfl, rfl, hid (by rw [hfu.out]), X⟩
    case round =>
     clear X
     obtain ⟨j, hj, rfl, rfl, hnw, X⟩ := hrel
     rcases Nat.eq_zero_or_pos j with hj0 | hj0
     ·subst hj0
      have hn := hnw.out.trans (hz.out k)
      replace hn := hid hn
      go_wp2
      go_meet
      exact ⟨M, by rw [hvn.out _ hn.out]; exact hO, X⟩
     ·obtain ⟨i, rfl⟩ : ∃ i, j = i + 1 := ⟨j - 1, by omega⟩
      have hi : i < l.length := by omega
      obtain ⟨b1, o1, am, cm, ad, cd, ar, cr, rfl, hrt, c0, c1, c2, c3, c4, c5, c6, c7, c8, c9⟩ := (h.out.below X.below).at3 hi
      obtain ⟨vm', vd', vr', hv, hm, hd, hr, n1, n2, n3⟩ := hrt
      simp only [txnV, Value.agg.injEq, Array.mk.injEq, List.cons.injEq, and_true, true_and] at hv
      obtain ⟨rfl, rfl, rfl⟩ := hv
      have hb1 := hbr.out i hi k
      have hb2 := hbg.out i hi k
      have hb3 := hbn.out i hi k
      rw [← hnw.out] at hb1 hb2 hb3
      generalize l[i] = t at *
      have hC := fun w' (hb : Below wr.heap.size wr w') => slices_ContainsI t.rev k _ w' (hr.below hb) (by omega)
      have hG := fun w' (hb : Below wr.heap.size wr w') => txn_Get t.mt k _ w' (hm.below hb) (by omega)
      replace hb1 := hid hb1; replace hb2 := hid hb2; replace hb3 := hid hb3; replace hm := hid hm; replace hr := hid hr; replace hC := hid hC; replace hG := hid hG
      cases hB : inI t.rev k with
      | true =>
       have hn := hb1.out hB
       rw [hB] at hC
       clear hB
       replace hn := hid hn
       go_wp2_with (first
        | (go_at_call 72; go_loud ((with_reducible refine (hC.out _ (b0 _)).mono ?_); rintro e w1 ⟨rfl, rfl⟩)))
       go_meet
       exact ⟨M, by rw [hvn.out _ hn.out]; exact hO, X⟩
      | false =>
       have hb3 := hb3.out hB
       rw [hB] at hC
       clear hB
       cases hT : getC t.mt k with
       | none =>
        have hn := hb3 hT
        rw [hT] at hG
        clear hT hb3
        replace hn := hid hn
        go_wp2_with (first
         | (go_at_call 72; go_loud ((with_reducible refine (hC.out _ (b0 _)).mono ?_); rintro e w1 ⟨rfl, rfl⟩))
         | (go_at_call 40; go_loud ((with_reducible refine (hG.out _ (b0 _)).mono ?_); rintro e w1 ⟨rfl, hb1⟩; replace X := X.call hb1; clear hb1)))
        go_roundw
        case rel => (first | exact ⟨i, by omega, by go_num, rfl, hn, X⟩ | ((repeat apply Exists.intro); exact ⟨⟨i, by omega, by go_num, rfl, hn, X⟩, rfl⟩))
        case measure => simp [intOf]
       | some s =>
        have hn := hb2.out s hT
        rw [hT] at hG
        clear hT hb3
        replace hn := hid hn
        have hy : [(⟨k, s⟩ : Cpy)].flatMap cpyC = [.int .i64 k, .string s] := rfl
        go_wp2_with (first
         | (go_at_call 72; go_loud ((with_reducible refine (hC.out _ (b0 _)).mono ?_); rintro e w1 ⟨rfl, rfl⟩))
         | (go_at_call 40; go_loud ((with_reducible refine (hG.out _ (b0 _)).mono ?_); rintro e w1 ⟨rfl, hb1⟩; replace X := X.call hb1; clear hb1))
         | (refine at_build rfl ?_; go_loud (refine m_build1 rfl rfl Zev (by rfl) (by rfl) X ?_; intro g w2 X2; replace X := X2; clear X2; (simp only [Act.put, zA, zB, zC, zD, zE, zF, zG, Nat.reduceAdd])))
         | (at_builtin; go_loud ((refine m_app (M := M) (T := []) (n := 1) [] rfl rfl [⟨k, s⟩] cpyC_flat X hO Zev Zev hy rfl (by omega) ?_); intro a2 c2 w2 M2 hO2 X2; (simp only [Act.put, zA, zB, zC, zD, zE, zF, zG, Nat.reduceAdd]))))
        go_meet
        exact ⟨M2, by rw [hvs.out _ _ hn.out]; exact hO2, X2⟩
   case rest =>
    obtain ⟨M, hO, X⟩ := hcut
    go_wp2
    go_roundw
    case rel => exact ⟨k + 1, M, by omega, by go_num, hO, X⟩
    case measure => simp [intOf]; omega
  ·obtain rfl : k = 12 := by omega
   go_wp2
   go_ret
   exact ⟨_, rfl, hO.own (L := []) cpyC_flat X, X.below⟩
end Go.Proofs.YtjhmfljlclajnaaGreatDoor
namespace Wb
open Go Go.RowKit
theorem superM_read (w : World) (q p : Int) : RMark w (.agg #[.int .i64 1, .int .i64 q, .int .i64 p, .slice none 0 0, .slice none 0 0]) (superM q p) :=
 ⟨_, _, rfl, RL.nil _ _, RL.nil _ _, Nat.zero_le _, Nat.zero_le _⟩
theorem checkE_bad {l : List Cpy} {p q : Int} (h : markE (superM q p) ≠ 0) : checkE l p q = markE (superM q p) ∧ checkL l p q = [] := by
 have e : checkE l p q = markE (superM q p) := by unfold checkE; rw [if_pos h]
 exact ⟨e, by unfold checkL; rw [e, if_neg h]⟩
theorem checkE_form {l : List Cpy} {p q : Int} (h : markE (superM q p) = 0) {k : Nat} (hk : k < l.length) (hc : cpyOk l[k] = false) : checkE l p q = 1 ∧ checkL l p q = [] := by
 have hn : ¬ l.all cpyOk = true := fun hh => by
  have := List.all_eq_true.1 hh _ (List.getElem_mem hk)
  rw [hc] at this; cases this
 have e : checkE l p q = 1 := by unfold checkE; rw [if_neg (by rw [h]; decide), if_neg hn]
 exact ⟨e, by unfold checkL; rw [e, if_neg (by decide)]⟩
theorem checkE_ok {l : List Cpy} {p q : Int} (h : markE (superM q p) = 0) (hc : l.all cpyOk = true) : checkE l p q = 0 ∧ checkL l p q = homeS l ++ [wrS 0 (markS (superM q p)), flushS] := by
 have e : checkE l p q = 0 := by unfold checkE; rw [if_neg (by rw [h]; decide), if_pos hc]
 exact ⟨e, by unfold checkL; rw [if_pos e]⟩
theorem all_take {α : Type} {p : α → Bool} {l : List α} {k : Nat} (hk : k < l.length) (h : (l.take k).all p = true) (hc : p l[k] = true) : (l.take (k + 1)).all p = true := by
 rw [List.take_succ_eq_append_getElem hk, List.all_append, h]
 simp [hc]
theorem map_take {α β : Type} {f : α → β} {l : List α} {k : Nat} (hk : k < l.length) : (l.take (k + 1)).map f = (l.take k).map f ++ [f l[k]] := by
 rw [List.take_succ_eq_append_getElem hk, List.map_append]; rfl
theorem room2 {n m : Nat} (h : n = m) (hm : m ≤ 6000000000000) : (n + 2 + (n + 2) / 4 + 192) * 32 ≤ 281474976710656 ∧ n + 2 ≤ 140737488355328 := by subst h; omega
theorem cpyOk_iff (c : Cpy) : cpyOk c = true ↔ (0 ≤ c.block ∧ c.block < 12) ∧ c.text.size = 32 := by
 unfold cpyOk isBlk ok32; simp
end Wb
namespace Go.Proofs.YtjhmfljlclajnaaGreatDoor
open Go.RowKit Wb
set_option maxRecDepth 100000
set_option maxHeartbeats 8000000
theorem seal_Check (l : List Cpy) (p q : Int) (v : Value) (w : World) (h : RL cpyC w v l) (hl : l.length ≤ 5864062014805) (hF : Sl w (flR 0).v 1 (flR 0).cs) :
    Calls Tryz.prog 32 #[v, .int .i64 p, .int .i64 q] w fun e w' => ∃ v', e = .returned (.tuple #[v', .int .i64 (checkE l p q)]) ∧ Wb.Own stpC w.heap.size 99 3 w' v' (checkL l p q) ∧ Below w.heap.size w w' := by
 obtain ⟨a, cap, rfl, _⟩ := h.form
 have hE := fun w => stamp_Encode (superM q p) _ w (superM_read w q p)
 have hW := fun x s w => seal_write x s w
 have X : St [] w w [] [flR 0] := (St.start [] w).addR0 hF
 replace hE := hid hE; replace hW := hid hW
 by_cases hM : markE (superM q p) = 0
 ·rw [hM] at hE
  have hbad := fun k (hk : k < l.length) (hc : cpyOk l[k] = false) => checkE_form hM hk hc
  have hok := fun (hc : l.all cpyOk = true) => checkE_ok hM hc
  have hat := fun k (hk : k < l.length) (h : (l.take k).all cpyOk = true) (hc : cpyOk l[k] = true) => all_take hk h hc
  have hmt := fun k (hk : k < l.length) => map_take (f := goS) hk
  have hfu : l.take l.length = l := List.take_length
  have hho : homeS l = l.map goS ++ (if l = [] then [] else [flushS]) := rfl
  have hnil : (l = []) ↔ l.length = 0 := List.length_eq_zero_iff.symm
  rw [hho] at hok
  generalize checkE l p q = E at *
  generalize checkL l p q = C at *
  generalize markS (superM q p) = ms at *
  replace h := hid h; replace hbad := hid hbad; replace hok := hid hok; replace hat := hid hat; replace hmt := hid hmt; replace hfu := hid hfu; replace hnil := hid hnil
  clear hho hM hF
  go_enter Tryz.func32, Tryz.ntmps32
  go_wp2_with (first
   | (go_at_call 21; go_loud ((with_reducible refine (hE.out _).mono ?_); rintro e w1 ⟨rfl, hb1⟩; replace X := X.call hb1; clear hb1)))
  go_loopw [10, 25] (fun o i wr => ∃ (k : Nat) (M : List Ent), k ≤ l.length ∧ i = .int .i64 k ∧ Hid ((l.take k).all cpyOk = true) ∧ OwnM stpC 99 3 o ((l.take k).map goS) M ∧ St [] w wr (M ++ []) [flR 0]) (fun _ i _ => l.length - (intOf i).toNat)
  case atStart => exact ⟨0, [], Nat.zero_le _, rfl, hid rfl, OwnM.nil _ _ _, X⟩
  case round =>
   clear X
   obtain ⟨k, M, hk, rfl, hal, hO, X⟩ := hrel
   have hlk : ((l.take k).map goS).length = k := by rw [List.length_map, List.length_take]; omega
   obtain ⟨ao, co, rfl⟩ := hO.form
   rw [hlk] at hO ⊢
   by_cases hlt : k < l.length
   ·obtain ⟨b1, o1, rfl, c0, c1⟩ := RL.at2 (fun x => .int .i64 x.block) (fun x => .string x.text) (fun _ => rfl) (h.out.below X.below) hlt
    have hb := hbad.out k hlt
    have ha := hat.out k hlt hal.out
    have hm := hmt.out k hlt
    generalize l[k] = x at *
    generalize (l.take k).map goS = ls at *
    obtain ⟨xb, xt⟩ := x
    dsimp only at *
    have hci := cpyOk_iff ⟨xb, xt⟩
    dsimp only at hci
    cases hc : cpyOk ⟨xb, xt⟩ with
    | true =>
     obtain ⟨⟨y0, y1⟩, y2⟩ := hci.1 hc
     have ha := ha hc
     replace ha := hid ha; replace hm := hid hm
     have y3 : ((xt.size : Int) != 32) = false := by rw [y2]; rfl
     have d1 : decide (xb < 0) = false := decide_eq_false (by omega)
     have d2 : decide (12 ≤ xb) = false := decide_eq_false (by omega)
     clear hci hc hb
     have hr1 : (ls.length + 1 + (ls.length + 1) / 4 + 192) * 32 ≤ 281474976710656 := by omega
     have hr2 : ls.length + 1 ≤ 140737488355328 := by omega
     have hgo : [goS ⟨xb, xt⟩].flatMap stpC = [.int .i64 1, .int .i64 (25 + xb), .string xt] := rfl
     go_wp2_with (first
      | (refine ZcL ?_) | (refine ZcS ?_; clear X; intro w X) | (refine ZcA ?_; clear X; intro g w X)
      | (go_at_call 60; go_loud ((with_reducible refine (hW.out _ _ _).mono ?_); rintro e w1 ⟨rfl, hb1⟩; replace X := X.call hb1; clear hb1))
      | (refine at_build rfl ?_; go_loud (refine m_build1 rfl rfl Zev (by rfl) (by rfl) X ?_; intro g w2 X2; replace X := X2; clear X2; (simp only [Act.put, zA, zB, zC, zD, zE, zF, zG, Nat.reduceAdd])))
      | (at_builtin; go_loud ((refine m_appB (M := M) (T := []) (n := 1) [_] rfl rfl [goS ⟨xb, xt⟩] stpC_flat X hO Zev Zev hgo rfl hr1 hr2 ?_); intro a2 c2 w2 M2 hO2 X2; (simp only [Act.put, zA, zB, zC, zD, zE, zF, zG, Nat.reduceAdd]))))
     rw [hlk]
     go_roundw
     case rel => exact ⟨k + 1, M2, by omega, by go_num, ha, by rw [hm.out, ← hlk]; exact hO2, X2.tail⟩
     case measure => simp [intOf]; omega
    | false =>
     obtain ⟨e1, e2⟩ := hb hc
     subst e1 e2
     have hn : ¬ ((0 ≤ xb ∧ xb < 12) ∧ xt.size = 32) := fun h => by rw [hci.2 h] at hc; cases hc
     clear hci hc hb ha hm
     by_cases z1 : xb < 0
     ·have d1 : decide (xb < 0) = true := decide_eq_true z1
      go_wp2_with (first
       | (refine ZcL ?_) | (refine ZcS ?_; clear X; intro w X) | (refine ZcA ?_; clear X; intro g w X))
      go_ret2
      exact ⟨_, rfl, Own.nil _ _ _ _ _, X.below⟩
     ·have d1 : decide (xb < 0) = false := decide_eq_false z1
      by_cases z2 : 12 ≤ xb
      ·have d2 : decide (12 ≤ xb) = true := decide_eq_true z2
       go_wp2_with (first
        | (refine ZcL ?_) | (refine ZcS ?_; clear X; intro w X) | (refine ZcA ?_; clear X; intro g w X))
       go_ret2
       exact ⟨_, rfl, Own.nil _ _ _ _ _, X.below⟩
      ·have d2 : decide (12 ≤ xb) = false := decide_eq_false z2
       have y3 : ((xt.size : Int) != 32) = true := bne_iff_ne.2 (fun h => hn ⟨by omega, by omega⟩)
       clear hn
       go_wp2_with (first
        | (refine ZcL ?_) | (refine ZcS ?_; clear X; intro w X) | (refine ZcA ?_; clear X; intro g w X))
       go_ret2
       exact ⟨_, rfl, Own.nil _ _ _ _ _, X.below⟩
   ·have hkl : k = l.length := by omega
    have hts : l.take k = l := by rw [hkl, List.take_length]
    obtain ⟨e1, e2⟩ := hok.out (by rw [← hts]; exact hal.out)
    have e3 : C = (l.take k).map goS ++ (if k = 0 then [] else [flushS]) ++ [wrS 0 ms, flushS] := by
     rw [e2, hts]
     by_cases hz : l = []
     ·rw [if_pos hz, if_pos (by rw [hkl]; exact hnil.out.1 hz)]
     ·rw [if_neg hz, if_neg (fun h => hz (hnil.out.2 (by omega)))]
    clear hal hbad hok hat hmt e2 hts hnil hfu
    generalize (l.take k).map goS = ls at *
    have hfl : [wrS 0 ms, flushS].flatMap stpC = [.int .i64 1, .int .i64 0, .string ms, .int .i64 2, .int .i64 0, .string ⟨#[]⟩] := rfl
    have hli : ((k : Int) < (l.length : Int)) = False := eq_false (by omega)
    by_cases hz : k = 0
    ·rw [if_pos hz] at e3
     have hzi : decide (0 < k) = false := decide_eq_false (by omega)
     have hr3 : (ls.length + 2 + (ls.length + 2) / 4 + 192) * 32 ≤ 281474976710656 := by omega
     have hr4 : ls.length + 2 ≤ 140737488355328 := by omega
     clear hz
     replace e3 := hid e3
     replace hkl := hid hkl
     go_wp2
     (refine q_startS 0 [] [2, 4, 5] [3] [0, 1, 3, 2, 4, 5, 6, 7] X ?_; clear X; intro hQ X hL; simp only [zF, zG] at hL; simp only [zF, zG])
     (refine Zm ?_)
     (refine Zm ?_)
     (refine q_rd0 rfl rfl rfl Zfl (by rfl) rfl rfl X hL hQ ?_; (simp only [Act.put, zA, zB, zC, zD, zE, zF, zG, Nat.reduceAdd]))
     (refine q_callS 60 Tryz.func60 (hW.out _ _ _) ?_; rintro e w1 ⟨rfl, hb1⟩; replace X := X.call hb1; clear hb1; refine Zce ?_; clear hL; intro hL)
     (refine q_build2 rfl rfl Zev Zev (by rfl) (by rfl) (by rfl) (by rfl) X hL rfl rfl ?_; intro g w X2 hL2; (try simp only [List.cons_append, List.nil_append] at X2 hL2); replace X := X2; replace hL := hL2; clear X2 hL2; (simp only [Act.put, zA, zB, zC, zD, zE, zF, zG, Nat.reduceAdd]))
     (refine q_appB (M := M) (T := []) (n := 2) [] rfl rfl [wrS 0 ms, flushS] stpC_flat X hO Zev Zev hfl rfl hr3 hr4 hL (List.nil_sublist _) rfl rfl ?_; intro a3 c3 w3 M3 hO3 X3 hL3; replace X := X3; replace hL := hL3; clear X3 hL3; (simp only [Act.put, zA, zB, zC, zD, zE, zF, zG, Nat.reduceAdd]))
     (refine Za ?_)
     (refine Za ?_)
     refine q_nil ?_
     go_wp2
     go_ret2
     subst e1
     exact ⟨_, rfl, by rw [e3.out, List.append_nil]; exact hO3.own (L := []) stpC_flat X, X.below⟩
    ·rw [if_neg hz] at e3
     have hzi : decide (0 < k) = true := decide_eq_true (by omega)
     have hr1 : (ls.length + 1 + (ls.length + 1) / 4 + 192) * 32 ≤ 281474976710656 := by omega
     have hr2 : ls.length + 1 ≤ 140737488355328 := by omega
     have hlf : (ls ++ [flushS]).length = k + 1 := by rw [List.length_append, hlk]; rfl
     obtain ⟨hr3, hr4⟩ := room2 hlf (by omega)
     have hgo : [flushS].flatMap stpC = [.int .i64 2, .int .i64 0, .string ⟨#[]⟩] := rfl
     clear hz hlf
     replace e3 := hid e3
     replace hkl := hid hkl
     go_wp2_with (first
      | (refine at_mem rfl ?_; refine m_rd0 rfl rfl rfl X Zfl (by rfl) ?_; (simp only [Act.put, zA, zB, zC, zD, zE, zF, zG, Nat.reduceAdd]))
      | (refine at_build rfl ?_; go_loud (refine m_build1 rfl rfl Zev (by rfl) (by rfl) X ?_; intro g w2 X2; replace X := X2; clear X2; (simp only [Act.put, zA, zB, zC, zD, zE, zF, zG, Nat.reduceAdd])))
      | (at_builtin; go_loud ((refine m_appB (M := M) (T := []) (n := 1) [] rfl rfl [flushS] stpC_flat X hO Zev Zev hgo rfl hr1 hr2 ?_); intro a2 c2 w2 M2 hO2 X2; replace X := X2; clear X2; (simp only [Act.put, zA, zB, zC, zD, zE, zF, zG, Nat.reduceAdd]))))
     (refine q_startS 0 [] [2, 4, 5] [3] [0, 1, 3, 2, 4, 5, 6, 7] X ?_; clear X; intro hQ X hL; simp only [zF, zG] at hL; simp only [zF, zG])
     (refine Zm ?_)
     (refine Zm ?_)
     (refine q_rd0 rfl rfl rfl Zfl (by rfl) rfl rfl X hL hQ ?_; (simp only [Act.put, zA, zB, zC, zD, zE, zF, zG, Nat.reduceAdd]))
     (refine q_callS 60 Tryz.func60 (hW.out _ _ _) ?_; rintro e w1 ⟨rfl, hb1⟩; replace X := X.call hb1; clear hb1; refine Zce ?_; clear hL; intro hL)
     (refine q_build2 rfl rfl Zev Zev (by rfl) (by rfl) (by rfl) (by rfl) X hL rfl rfl ?_; intro g w X2 hL2; (try simp only [List.cons_append, List.nil_append] at X2 hL2); replace X := X2; replace hL := hL2; clear X2 hL2; (simp only [Act.put, zA, zB, zC, zD, zE, zF, zG, Nat.reduceAdd]))
     (refine q_appB (M := M2) (T := []) (n := 2) [] rfl rfl [wrS 0 ms, flushS] stpC_flat X hO2 Zev Zev hfl rfl hr3 hr4 hL (List.nil_sublist _) rfl rfl ?_; intro a3 c3 w3 M3 hO3 X3 hL3; replace X := X3; replace hL := hL3; clear X3 hL3; (simp only [Act.put, zA, zB, zC, zD, zE, zF, zG, Nat.reduceAdd]))
     (refine Za ?_)
     (refine Za ?_)
     refine q_nil ?_
     go_wp2
     go_ret2
     subst e1
     exact ⟨_, rfl, by rw [e3.out]; exact hO3.own (L := []) stpC_flat X, X.below⟩
 ·obtain ⟨e1, e2⟩ := checkE_bad (l := l) hM
  rw [e1, e2]
  generalize markE (superM q p) = E at *
  have hne : (E != 0) = true := bne_iff_ne.2 hM
  clear hF h
  go_enter Tryz.func32, Tryz.ntmps32
  go_wp2_with (first
   | (go_at_call 21; go_loud ((with_reducible refine (hE.out _).mono ?_); rintro e w1 ⟨rfl, hb1⟩; replace X := X.call hb1; clear hb1)))
  go_ret2
  exact ⟨_, rfl, Own.nil _ _ _ _ _, X.below⟩
theorem seal_log (s : ByteArray) (p : Int) (hp : 0 ≤ p ∧ p < 24) {S : List Nat} {w0 w : World} {A M T : List Ent} {R : List Rd} {g12 g10 ga k m c n n' cap : Nat} {cs : List Value} {v : Value} {l : List Stp}
    (X : St S w0 w (⟨g12, [v], 57⟩ :: ⟨g10, [.slice (some ⟨ga, k, none⟩) m c], 49⟩ :: (A ++ (M ++ T))) R) (hO : OwnM stpC 99 3 v l M) (hR : ⟨.slice (some ⟨ga, 0, none⟩) n' cap, n, cs⟩ ∈ R) (hk : cs[k]? = some (.int .i64 p)) (hm : 0 < m) (hmc : m ≤ c) (hl : l.length ≤ 1000) :
    Calls Tryz.prog 67 #[.string s, .pointer (some ⟨g12, 0, none⟩), .pointer (some ⟨g10, 0, none⟩)] w fun e w' => ∃ u v' at' M', e = .returned u ∧ OwnM stpC 99 3 v' (l ++ [atW p s]) M' ∧ (1 < m → at' = .slice (some ⟨ga, k + 1, none⟩) (m - 1) (c - 1)) ∧
      St S w0 w' (⟨g12, [v'], 57⟩ :: ⟨g10, [at'], 49⟩ :: (A ++ (M' ++ T))) R := by
 obtain ⟨hp0, hp1⟩ := hp
 have hW := fun x s w => seal_write x s w
 have hgo : [atW p s].flatMap stpC = [.int .i64 1, .int .i64 (1 + p), .string s] := rfl
 have h40 : l.length + 1 ≤ 1099511627776 := by omega
 obtain ⟨ao, co, rfl⟩ := hO.form
 have m1 : 1 ≤ m := hm
 have c1 : 1 ≤ c := by omega
 have hwr : IntKind.i64.wrap (1 + p) = 1 + p := IntWalk.i64_in _ (by omega)
 replace hW := hid hW
 go_enter Tryz.func67, Tryz.ntmps67
 go_wp2
 (refine q_startS 2 [9] [6, 7, 8, 9] [0, 1, 3] [0, 1, 2, 3, 4, 5, 6, 7, 8, 9] X ?_; clear X; intro hQ X hL; simp only [zF, zG] at hL; simp only [zF, zG])
 (refine Zl ?_)
 (refine Zl ?_)
 (refine Zg ?_)
 (refine q_cell0 rfl rfl Zev hR hk rfl rfl X hL hQ ?_; (simp only [Act.put, zA, zB, zC, zD, zE, zF, zG, Nat.reduceAdd]))
 (refine Zg ?_)
 (refine Zm ?_)
 (refine q_callS 60 Tryz.func60 (hW.out _ _ _) ?_; rintro e w1 ⟨rfl, hb1⟩; replace X := X.call hb1; clear hb1; refine Zce ?_; clear hL; intro hL)
 (refine q_build1 rfl rfl Zev (by rfl) (by rfl) X hL rfl rfl ?_; intro g w X2 hL2; replace X := X2; replace hL := hL2; clear X2 hL2; (simp only [Act.put, zA, zB, zC, zD, zE, zF, zG, Nat.reduceAdd]))
 (refine q_app (M := M) (T := T) (n := 1) (_ :: _ :: A) rfl rfl [atW p s] stpC_flat X hO Zev Zev hgo rfl h40 hL (.cons_cons _ (.cons_cons _ (List.nil_sublist _))) rfl rfl ?_; intro a2 c2 w2 M2 hO2 X2 hL2; replace X := X2; replace hL := hL2; clear X2 hL2; (simp only [Act.put, zA, zB, zC, zD, zE, zF, zG, Nat.reduceAdd]))
 (refine Zb ?_; clear X; intro w X)
 refine q_nil ?_
 go_wp2_with (first
  | (refine ZcL ?_) | (refine ZcS ?_; clear X; intro w X) | (refine ZcA ?_; clear X; intro g w X))
 all_goals exact bodyPost_end (results_none rfl _ _ _) rfl ⟨⟨_, rfl⟩, _, _, _, hO2, fun h => (by first | rfl | (exfalso; omega) | (rw [if_neg (by omega)])), X⟩
theorem seal_mark (kd at_ : Int) (x0 q : Int) (vt vb : Value) (mk : Mrk) (p : Int) (hp : 0 ≤ p ∧ p < 24) {S : List Nat} {w0 w : World} {A M T : List Ent} {R : List Rd} {g12 g10 g15 g3 ga k m c n n' cap : Nat} {cs tcs : List Value} {t3 : TypeId} {v : Value} {l : List Stp}
    (hmk : ∀ w' L', St S w0 w' L' R → RMark w' (.agg #[.int .i64 kd, .int .i64 q, .int .i64 at_, vt, vb]) mk)
    (X : St S w0 w (⟨g12, [v], 57⟩ :: ⟨g10, [.slice (some ⟨ga, k, none⟩) m c], 49⟩ :: ⟨g15, [.func (.func 67) #[] #[.pointer (some ⟨g12, 0, none⟩), .pointer (some ⟨g10, 0, none⟩)]], 149⟩ :: ⟨g3, .int .i64 q :: tcs, t3⟩ :: (A ++ (M ++ T))) R) (hO : OwnM stpC 99 3 v l M) (hR : ⟨.slice (some ⟨ga, 0, none⟩) n' cap, n, cs⟩ ∈ R) (hk : cs[k]? = some (.int .i64 p)) (hm : 0 < m) (hmc : m ≤ c) (hl : l.length ≤ 1000) :
    Calls Tryz.prog 68 #[.agg #[.int .i64 kd, .int .i64 x0, .int .i64 at_, vt, vb], .pointer (some ⟨g3, 0, none⟩), .pointer (some ⟨g15, 0, none⟩)] w fun e w' => ∃ u v' at' M', e = .returned u ∧ OwnM stpC 99 3 v' (l ++ [atW p (markS mk)]) M' ∧ (1 < m → at' = .slice (some ⟨ga, k + 1, none⟩) (m - 1) (c - 1)) ∧
      St S w0 w' (⟨g12, [v'], 57⟩ :: ⟨g10, [at'], 49⟩ :: ⟨g15, [.func (.func 67) #[] #[.pointer (some ⟨g12, 0, none⟩), .pointer (some ⟨g10, 0, none⟩)]], 149⟩ :: ⟨g3, .int .i64 q :: tcs, t3⟩ :: (A ++ (M' ++ T))) R := by
 have hE := fun w' L' (X' : St S w0 w' L' R) => stamp_Encode mk _ w' (hmk w' L' X')
 have hL := fun s w (X : St S w0 w (⟨g12, [v], 57⟩ :: ⟨g10, [.slice (some ⟨ga, k, none⟩) m c], 49⟩ :: ⟨g15, [.func (.func 67) #[] #[.pointer (some ⟨g12, 0, none⟩), .pointer (some ⟨g10, 0, none⟩)]], 149⟩ :: ⟨g3, .int .i64 q :: tcs, t3⟩ :: (A ++ (M ++ T))) R) => seal_log s p hp (A := ⟨g15, [.func (.func 67) #[] #[.pointer (some ⟨g12, 0, none⟩), .pointer (some ⟨g10, 0, none⟩)]], 149⟩ :: ⟨g3, .int .i64 q :: tcs, t3⟩ :: A) X hO hR hk hm hmc hl
 generalize markS mk = ms at *
 generalize markE mk = me at *
 replace hE := hid hE; replace hL := hid hL; replace hR := hid hR; replace hk := hid hk
 clear hmk
 go_enter Tryz.func68, Tryz.ntmps68
 go_wp2_with (first
  | (refine ZcL ?_) | (refine ZcS ?_; clear X; intro w X) | (refine ZcA ?_; clear X; intro g w X)
  | (go_at_call 21; go_loud ((with_reducible refine (hE.out _ _ X).mono ?_); rintro e w1 ⟨rfl, hb1⟩; replace X := X.call hb1; clear hb1))
  | (go_at_call 67; go_loud ((with_reducible refine (hL.out _ _ X.tail).mono ?_); rintro e w1 ⟨u, v2, at2, M2, rfl, hO2, hat, X2⟩; replace X := X2; clear X2)))
 exact bodyPost_end (results_none rfl _ _ _) rfl ⟨_, _, _, _, rfl, hO2, hat, X⟩
end Go.Proofs.YtjhmfljlclajnaaGreatDoor
namespace Go.Proofs.YtjhmfljlclajnaaGreatDoor
open Go.RowKit Wb
set_option maxRecDepth 100000
set_option maxHeartbeats 4000000
theorem pre_isEsc (s : ByteArray) : Lib.hasPrefix s.data.toList [87, 66, 75, 49] = isEsc s := by
 rw [← Lib.hasPrefix_of_take, Bool.eq_iff_iff, Bool.and_eq_true, decide_eq_true_iff, beq_iff_eq]
 constructor
 ·intro hh
  exact decide_eq_true hh.2
 ·intro hh
  exact ⟨by rw [ba_len]; exact isEsc_len hh, of_decide_eq_true hh⟩
theorem take_isEsc (s : ByteArray) : ((s.extract 0 4).toList == [87, 66, 75, 49]) = isEsc s := by
 rw [Lib.toList_data, Lib.extract_data, List.drop_zero]
 unfold isEsc
 rw [Bool.eq_iff_iff, decide_eq_true_iff, beq_iff_eq]
 rfl
theorem drop_str (p : List UInt8) (s : ByteArray) (h : 4 ≤ s.size) : str p ++ s.extract 4 s.size = str (p ++ s.data.toList.drop 4) := by
 apply ba_ext
 rw [ByteArray.data_append, Array.toList_append, Lib.extract_data, List.take_of_length_le (by rw [List.length_drop, ba_len]; omega)]
 simp [str]
theorem stamp_Escape (s : ByteArray) (w : World) (hs : s.size ≤ 9223372036854775807) :
    Calls Tryz.prog 71 #[.string s] w fun e w' => e = .returned (.tuple #[.string (escS s), .bool (isEsc s)]) ∧ Below w.heap.size w w' := by
 have hP := fun w => Tryz.strings_HasPrefix s ⟨#[87, 66, 75, 49]⟩ w
 have hb := pre_isEsc s
 dsimp only at hP
 rw [hb] at hP
 clear hb
 cases hc : isEsc s
 ·rw [hc] at hP
  have hv : escS s = s := by unfold escS; rw [hc]; rfl
  rw [hv]
  replace hP := hid hP
  go_enter Tryz.func71, Tryz.ntmps71
  go_wp2_with (go_at_call 25; refine (hP.out _).mono ?_; rintro e w1 ⟨rfl, rfl⟩)
  go_ret2
  exact ⟨rfl, by exact Zlo⟩
 ·rw [hc] at hP
  have h4 := isEsc_len hc
  have hv : (⟨#[0, 0, 0, 0]⟩ : ByteArray) ++ s.extract 4 s.size = escS s := by unfold escS; rw [hc]; exact drop_str [0, 0, 0, 0] s h4
  have hx : (s.extract 4 s.size).size = s.size - 4 := by simp
  replace hP := hid hP
  go_enter Tryz.func71, Tryz.ntmps71
  go_wp2_with (go_at_call 25; refine (hP.out _).mono ?_; rintro e w1 ⟨rfl, rfl⟩)
  go_ret2
  exact ⟨rfl, by exact Zlo⟩
theorem stamp_Unescape (s : ByteArray) (e : Bool) (w : World) (hs : s.size ≤ 9223372036854775807) :
    Calls Tryz.prog 92 #[.string s, .bool e] w fun r w' => r = .returned (.string (unescS s e)) ∧ Below w.heap.size w w' := by
 by_cases h4 : 4 ≤ s.size
 ·have hx : (s.extract 4 s.size).size = s.size - 4 := by simp
  have hv1 : (⟨#[87, 66, 75, 49]⟩ : ByteArray) ++ s.extract 4 s.size = unescS s true := by unfold unescS; rw [if_pos ⟨rfl, h4⟩]; exact drop_str magic s h4
  have hv0 : unescS s false = s := by unfold unescS; simp
  cases e
  ·rw [hv0]
   clear hv1
   go_enter Tryz.func92, Tryz.ntmps92
   go_wp2
   go_ret
   exact ⟨rfl, by exact Zlo⟩
  ·go_enter Tryz.func92, Tryz.ntmps92
   go_wp2
   go_ret
   exact ⟨rfl, by exact Zlo⟩
 ·have hv : unescS s e = s := by unfold unescS; rw [if_neg (fun hh => h4 hh.2)]
  rw [hv]
  cases e
  all_goals
   go_enter Tryz.func92, Tryz.ntmps92
   go_wp2
   go_ret
   exact ⟨rfl, by exact Zlo⟩
end Go.Proofs.YtjhmfljlclajnaaGreatDoor
