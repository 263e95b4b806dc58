/- Parts of the proof. -/
import Derived.RangeFuncNested
import Derived.OrdersIn
import Derived.Test.YtjhmfljlclajnadGreatDoorKTopOrdered9
import Derived.Deep.RegionHeld3
import Derived.Test.YtjhmfljlclajnadGreatDoorUFit2
set_option linter.unusedVariables false
set_option linter.unusedSimpArgs false
set_option maxRecDepth 100000
set_option maxHeartbeats 40000000
namespace Wb
open Go Go.RowKit
abbrev FW : Fence := Fence.wide
def Iter (P : Program) (gf : Nat) (lb : Array Value) (xs : List Value) (B : List Nat) (w : World) : Prop :=
 ∀ (l : Nat) (J : Nat -> World -> Prop) (W : World), (∀ b ∈ B, W.heap[b]? = w.heap[b]?) -> (∀ k A A', J k A -> Below A.heap.size A A' -> J k A') ->
  (∀ k (hk : k < xs.length) A, J k A -> YieldAt FW 0 P l #[xs[k]] A fun e A' => e = .returned (.bool true) /\ J (k + 1) A' /\ A.heap.size <= A'.heap.size /\ ∀ b ∈ B, A'.heap[b]? = A.heap[b]?) ->
  J 0 W -> CallsIn FW 0 P gf (#[.func (.yield l) #[] #[]] ++ lb) W fun e W' => (∃ v, e = .returned v) /\ J xs.length W'
section
variable {P : Program} {Q : Exit -> Act -> World -> Prop} {a : Act} {w : World}
structure AtBody (W W1 : World) (p : Prop) : Prop where
 eq : W1 = W
 run : p
def BodyRun (P : Program) (body : Code) (w : World) (B : List Nat) (I : Nat -> World -> Prop) (k l : Nat) (a1 : Act) : Prop :=
 ∀ W2, w.heap.size <= W2.heap.size -> I k W2 -> body.wpIn (FW.inRound l) 0 P (fun e _ W' => e = .normal /\ KeepsFrom w.heap.size W2 W' /\ (∀ b ∈ B, W'.heap[b]? = W2.heap[b]?) /\ I (k + 1) W') a1 W2
theorem wp_range {g : Operand} {p : Tmp} {assign body : Code} {gf : Nat} {lb : Array Value} {xs : List Value} {B : List Nat} (hg : a.eval g = .func (.func gf) #[] lb) (eg : ∀ args w, (callFunc gf args).run P w = .ok (.enter gf args) w)
    (hB : ∀ b ∈ B, b < w.heap.size) (hit : Iter P gf lb xs B w) (I : Nat -> World -> Prop) (hI : ∀ k A A', I k A -> Below A.heap.size A A' -> I k A')
    (hI2 : ∀ k A l o o', I k A -> w.heap.size <= l -> A.heap[l]? = some o -> o.isCells = false -> I k (A.putObj l o')) (h0 : I 0 w)
    (hround : ∀ k (hk : k < xs.length) l W, assign.wpIn (FW.inRound l) 0 P (Exit.then (fun a1 W1 => AtBody W W1 (BodyRun P body w B I k l a1)) (fun _ _ _ => False)) { tmps := a.tmps.setIfInBounds p xs[k], defers := [] } W)
    (hdone : ∀ D W, w.heap.size <= D -> I xs.length W -> W.heap[D]? = some (.deferred (some [])) -> Q .normal { a with defers := { target := .collected D, args := #[] } :: a.defers } W) :
    (Code.rangeFunc g #[p] assign body).wp P Q a w := by
 refine (wpIn_wide (n := 0)).1 (wpIn_rangeFunc fun fn hfn => ?_)
 obtain ⟨rec, hrec⟩ : ∃ rec : LoopState -> Option Code -> Loop, rec = fun st pe => { state := st, pending := pe, fn, tmps := a.tmps, params := #[p], assign, body, defers := w.heap.size } := ⟨_, rfl⟩
 obtain ⟨W1, hW1⟩ : ∃ W1, (w.alloc (.deferred (some []))).alloc (.loop (rec .ready none)) = W1 := ⟨_, rfl⟩
 have hb1 : Below w.heap.size w W1 := by rw [<- hW1]; exact bal (bal (b0 w) _) _
 have hL1 : W1.heap[w.heap.size + 1]? = some (.loop (rec .ready none)) := by
  rw [<- hW1]; have := World.alloc_heap_new (w.alloc (.deferred (some []))) (.loop (rec .ready none)); rwa [World.size_alloc] at this
 have hK1 : W1.heap[w.heap.size]? = some (.deferred (some [])) := by
  rw [<- hW1]; exact (Below.heap_alloc _ _ _ (by simp)).trans (World.alloc_heap_new w _)
 have hne : ∀ {W : World} {l : Nat} {o : Obj}, w.heap.size <= l -> ∀ b ∈ B, (W.putObj l o).heap[b]? = W.heap[b]? := fun hl b hb => World.putObj_heap_other (by have := hB b hb; omega)
 refine ⟨w.heap.size + 1, [{ target := .collected w.heap.size, args := #[] }], W1, { target := .fn (.func gf) lb, args := #[.func (.yield (w.heap.size + 1)) #[] #[]] }, W1, gf,
  #[.func (.yield (w.heap.size + 1)) #[] #[]] ++ lb, W1, ?_, ?_, fun _ _ => trivial, ?_, fun h => by simp [Fence.wide] at h, ?_⟩
 ·rw [<- hW1, hrec]; exact run_enterLoop_outer _ _ _ _ _
 ·simp only [resolve, hg]
  simp [go_sem]
 ·simp [invoke, go_sem, eg]
 refine (hit (w.heap.size + 1) (fun k W => I k W /\ W.heap[w.heap.size + 1]? = some (.loop (rec .ready none)) /\ W.heap[w.heap.size]? = some (.deferred (some [])) /\ w.heap.size <= W.heap.size) W1
  (fun b hb => hb1.block b (hB b hb)) (fun k A A' h hb => ?_) (fun k hk A h => ?_) ⟨hI _ _ _ h0 hb1, hL1, hK1, hb1.size⟩).mono ?_
 ·obtain ⟨h1, h2, h3, h4⟩ := h
  exact ⟨hI _ _ _ h1 hb, (hb.block _ (Array.getElem?_eq_some_iff.1 h2).1).trans h2, (hb.block _ (Array.getElem?_eq_some_iff.1 h3).1).trans h3, Nat.le_trans h4 hb.size⟩
 ·obtain ⟨hi, hl, hk1, hsz⟩ := h
  have hlt : w.heap.size + 1 < A.heap.size := (Array.getElem?_eq_some_iff.1 hl).1
  have hy := run_yield (P := P) (args := #[xs[k]]) hl (by rw [hrec]; simp)
  rw [hrec] at hy
  have hl2 : (A.putObj (w.heap.size + 1) (.loop { rec .ready none with state := .busy })).heap[w.heap.size + 1]? = some (.loop { rec .ready none with state := .busy }) := World.putObj_heap_same hlt
  have hk2 : (A.putObj (w.heap.size + 1) (.loop { rec .ready none with state := .busy })).heap[w.heap.size]? = some (.deferred (some [])) := (World.putObj_heap_other (by omega)).trans hk1
  have hts : (#[p].zip #[xs[k]]).foldl (fun t (x : Tmp × Value) => t.setIfInBounds x.1 x.2) a.tmps = a.tmps.setIfInBounds p xs[k] := by simp
  refine ⟨fn, _, assign, body, hy, roundIn_of_wpIn hfn ?_⟩
  have hr0 := hround k hk (w.heap.size + 1) A
  rw [<- hts] at hr0
  refine wpIn_mono hr0 ?_
  intro e a1 W1 hq
  cases e with
  | normal =>
   obtain ⟨rfl, hq⟩ := hq
   refine ⟨_, run_beginRound hl (by rw [hrec]), wpIn_mono (hq _ (by simpa using hsz) (hI2 _ _ _ _ _ hi (by omega) hl rfl)) ?_⟩
   rintro e a3 W3 ⟨rfl, hk3, hB3, hi3⟩
   have hl3 := hk3.same _ _ (by omega) hl2 rfl
   have hr := run_endRound (P := P) none hl3
   rw [hrec] at hr hl3 ⊢
   have hlt3 := (Array.getElem?_eq_some_iff.1 hl3).1
   refine ⟨_, _, hr, rfl, ⟨hI2 _ _ _ _ _ hi3 (by omega) hl3 rfl, World.putObj_heap_same hlt3, (World.putObj_heap_other (by omega)).trans (hk3.same _ _ (Nat.le_refl _) hk2 rfl), ?_⟩, ?_, fun b hb => ?_⟩
   ·have := hk3.size; simp at this ⊢; omega
   ·have := hk3.size; simp at this ⊢; omega
   ·rw [hne (by omega) b hb, hB3 b hb]
    exact hne (by omega) b hb
  | _ => exact hq.elim
 ·rintro e W2 ⟨⟨v, rfl⟩, hi, hl, hk, hsz⟩
  exact ⟨none, _, by have := run_endLoop (P := P) hl (by rw [hrec]; simp); rw [hrec] at this; exact this, hdone _ _ (Nat.le_refl _) (hI2 _ _ _ _ _ hi (by omega) hl rfl) ((World.putObj_heap_other (by omega)).trans hk)⟩
theorem upon_in {F : Fence} {n : Nat} (hd : F.depth = none) (hf : ∀ f, F.fn f) (hF : ∀ m, Machine.fenced P F m) {o : Oper} {K : Act -> World -> Prop} : ∀ {r : Result Next}, o.upon P a K Q r -> o.uponIn F n P a K Q r
 | .ok (.value v) w', h => h
 | .ok .skip w', h => h
 | .ok (.defer d) w', h => h
 | .ok (.enter f args) w', h => ⟨fun hh => (by rw [hd] at hh; cases hh), hf f, fun cs _ => by
     obtain ⟨e, w2, fr, h1, h2, h3⟩ := h cs
     refine ⟨e, w2, fr, ?_, ?_, h3⟩
     · cases e <;> exact h1
     · cases e with
       | returned v => exact (StepsIn.of_steps h2).mono fun m _ => hF m
       | panicked c => exact (StepsIn.of_steps h2).mono fun m _ => hF m
       | outgrown => exact h2⟩
 | .ok (.row row args) w', h => ⟨fun hh => (by rw [hd] at hh; cases hh), fun c cs _ => by
     obtain ⟨v, w2, h1, h2⟩ := h c cs
     exact ⟨v, w2, h1, (StepsIn.of_steps h2).mono fun m _ => hF m⟩⟩
 | .ok (.round ..) w', h => h.elim
 | .halt x w', h => by cases x <;> first | exact h | exact h.elim
def noDefer : Oper -> Bool := fun o => match o.op with | .defer _ => false | _ => true
theorem oper_in {F : Fence} {n : Nat} (hd : F.depth = none) (hf : ∀ f, F.fn f) (hF : ∀ m, Machine.fenced P F m) {o : Oper} (ho : noDefer o = true) {K : Act -> World -> Prop} (h : o.wp P a w K Q) : o.wpIn F n P a w K Q := by
 have hs : o.semAt F.round a.eval = execOp a.eval o := by
  cases hr : F.round with
  | none => simp [Oper.semAt]
  | some l => exact Oper.semAt_some l _ _ fun c hc => by unfold noDefer at ho; rw [hc] at ho; cases ho
 refine ⟨fun f _ => hf f, ?_⟩
 rw [hs]
 exact upon_in hd hf hF h
theorem list_in {F : Fence} {n : Nat} (hd : F.depth = none) (hf : ∀ f, F.fn f) (hF : ∀ m, Machine.fenced P F m) {ops : Array Oper} (hno : ∀ a w, ¬ Q .outgrown a w) : ∀ (l : List Oper) (a : Act) (w : World), l.all noDefer = true -> wpList P ops Q l a w -> wpListIn F n P ops Q l a w
 | [], _, _, _, h => h
 | o :: r, a, w, hn, h => by
  rw [List.all_cons, Bool.and_eq_true] at hn
  unfold wpList at h
  unfold wpListIn
  split at h
  ·rename_i hw
   rw [if_pos hw]
   exact Oper.wpIn_mono (fun a w hh => list_in hd hf hF hno r a w hn.2 hh) (oper_in hd hf hF hn.1 (h.resolve_right fun hh => by obtain ⟨_, a, w, hq⟩ := hh; exact hno a w hq))
  ·rename_i hw
   rw [if_neg hw]
   exact ⟨fun f _ => hf f, list_in hd hf hF hno r _ _ hn.2 h⟩
theorem region_in {l id : Nat} {ops : List Oper} (hn : ops.all noDefer = true) (hno : ∀ a w, ¬ Q .outgrown a w) (h : wpList P ops.toArray Q ops a w) : (Code.region id ops.toArray false).wpIn (FW.inRound l) 0 P Q a w :=
 wpIn_region_lit (list_in (F := FW.inRound l) rfl (fun _ => trivial) (fun m => fenced_wide P m) hno _ _ _ hn h)
end
section
variable {S : List Nat} {w0 W W' : World} {L L' : List Ent} {R R' : List Rd}
theorem St.restart (X : St S w0 W L R) : St (L.map Ent.g) W W L R := ⟨Mv.refl _ _, X.nd, X.blk, fun e he => .inl (List.mem_map_of_mem he), X.rd⟩
theorem St.back (X : St S w0 W L R) (Y : St (L.map Ent.g) W W' L' R') : St S w0 W' L' R' :=
 ⟨X.mv.then Y.mv fun k hk => by
     obtain ⟨e, he, rfl⟩ := List.mem_map.1 hk
     exact X.own e he, Y.nd, Y.blk, fun e he => by
     rcases Y.own e he with h | h
     · obtain ⟨e2, he2, heq⟩ := List.mem_map.1 h
       rw [<- heq]; exact X.own e2 he2
     · exact .inr (Nat.le_trans X.mv.size h), Y.rd⟩
theorem St.keepsFrom (X : St S w0 W L R) (Y : St (L.map Ent.g) W W' L' R') (B : Nat) : KeepsFrom B W W' :=
 ⟨Y.mv.size, fun k o _ hk ho => by
  refine (Y.mv.block k (Array.getElem?_eq_some_iff.1 hk).1 fun hm => ?_).trans hk
  obtain ⟨e, he, rfl⟩ := List.mem_map.1 hm
  have := X.blk e he
  unfold Blk at this
  rw [this] at hk
  cases hk
  cases ho⟩
theorem St.other (X : St S w0 W L R) (Y : St (L.map Ent.g) W W' L' R') {D : Nat} {o : Obj} (hD : W.heap[D]? = some o) (ho : o.isCells = false) : W'.heap[D]? = some o := (X.keepsFrom Y 0).same D o (Nat.zero_le _) hD ho
theorem St.putO (X : St S w0 W L R) {l : Nat} {o : Obj} (o' : Obj) (hl : w0.heap.size <= l) (ho : W.heap[l]? = some o) (hc : o.isCells = false) (hS : l ∉ S) : St S w0 (W.putObj l o') L R := by
 have hne : ∀ {b : Nat} {cs t f}, W.heap[b]? = some (.cells cs t f) -> b ≠ l := fun hb e => by
  rw [e, ho] at hb; cases hb; cases hc
 have hcell : ∀ {b j : Nat} {u : Value}, W.cell? ⟨b, j, none⟩ = some u -> (W.putObj l o').cell? ⟨b, j, none⟩ = some u := fun {b j u} h => by
  obtain ⟨q, hq, hw⟩ := not_walk_of_cell h
  have hb : b ≠ l := fun e => by
   subst e
   unfold World.cell? at h
   rw [ho] at h
   cases o <;> simp_all [Obj.isCells]
  rw [<- h]
  exact World.cell?_of_block (World.putObj_heap_other hb)
 refine ⟨⟨X.mv.os, X.mv.tape, X.mv.output, by simpa using X.mv.size, fun k hk hn => ?_⟩, X.nd, fun e he => ?_, X.own, fun r hr => ⟨?_, (X.rd r hr).2⟩⟩
 ·rw [World.putObj_heap_other (by omega)]; exact X.mv.block k hk hn
 ·have := X.blk e he
  unfold Blk at this ⊢
  rw [World.putObj_heap_other (hne this)]; exact this
 ·obtain ⟨a, cap, hv, h1, h2, h3⟩ := (X.rd r hr).1
  exact ⟨a, cap, hv, h1, h2, h3.imp id fun ⟨b, off, ha, hc2⟩ => ⟨b, off, ha, fun j u hj => hcell (hc2 j u hj)⟩⟩
end
theorem St.gs6 {S : List Nat} {w0 w : World} {a b c d e f : Nat} {ca cb cc cd ce cf : List Value} {ta tb tc td te tf : TypeId} {L : List Ent} {R : List Rd} (_ : St S w0 w (⟨a, ca, ta⟩ :: ⟨b, cb, tb⟩ :: ⟨c, cc, tc⟩ :: ⟨d, cd, td⟩ :: ⟨e, ce, te⟩ :: ⟨f, cf, tf⟩ :: L) R) : ∃ x1 x2 x3 x4 x5 x6, x1 = a /\ x2 = b /\ x3 = c /\ x4 = d /\ x5 = e /\ x6 = f := ⟨_, _, _, _, _, _, rfl, rfl, rfl, rfl, rfl, rfl⟩
theorem St.gs4 {S : List Nat} {w0 w : World} {a b c d : Nat} {ca cb cc cd : List Value} {ta tb tc td : TypeId} {L : List Ent} {R : List Rd} (_ : St S w0 w (⟨a, ca, ta⟩ :: ⟨b, cb, tb⟩ :: ⟨c, cc, tc⟩ :: ⟨d, cd, td⟩ :: L) R) : ∃ x1 x2 x3 x4, x1 = a /\ x2 = b /\ x3 = c /\ x4 = d := ⟨_, _, _, _, rfl, rfl, rfl, rfl⟩
theorem St.front (pre : List Ent) {S : List Nat} {w0 w : World} {x : Ent} {L : List Ent} {R : List Rd} (X : St S w0 w (pre ++ x :: L) R) : St S w0 w (x :: (pre ++ L)) R := X.perm List.perm_middle
theorem St.gs2 {S : List Nat} {w0 w : World} {a b : Nat} {ca cb : List Value} {ta tb : TypeId} {L : List Ent} {R : List Rd} (_ : St S w0 w (⟨a, ca, ta⟩ :: ⟨b, cb, tb⟩ :: L) R) : ∃ x1 x2, x1 = a /\ x2 = b := ⟨_, _, rfl, rfl⟩
theorem St.gs1 {S : List Nat} {w0 w : World} {a : Nat} {ca : List Value} {ta : TypeId} {L : List Ent} {R : List Rd} (_ : St S w0 w (⟨a, ca, ta⟩ :: L) R) : ∃ x1, x1 = a := ⟨_, rfl⟩
theorem St.less {S : List Nat} {w0 w : World} {L L2 : List Ent} {R R2 : List Rd} (X : St S w0 w L R) (hL : L2.Sublist L) (hR : ∀ r ∈ R2, r ∈ R) : St S w0 w L2 R2 :=
 ⟨X.mv, (hL.map _).nodup X.nd, fun x hx => X.blk x (hL.subset hx), fun x hx => X.own x (hL.subset hx), fun r hr => ⟨(X.rd r (hR r hr)).1, (X.rd r (hR r hr)).2.imp id fun h b hb x hx => h b hb x (hL.subset hx)⟩⟩
theorem own_base {α : Type} {f : α -> List Value} {base : Nat} {e : TypeId} {c : Nat} {w : World} {v : Value} {l : List α} (hF : Flat f c) (h : Wb.Own f base e c w v l) (hl : 0 < l.length) : ∃ g cap, v = .slice (some ⟨g, 0, none⟩) l.length cap /\ l.length <= cap /\ cap <= maxLen := by
 obtain ⟨h1, h2⟩ := h
 rcases h2 with ⟨rfl, h0⟩ | ⟨g, cap, cur, rfl, hb, hg, hn, hc, hs, ht⟩
 ·omega
 ·exact ⟨g, cap, rfl, hn, hc⟩
theorem RL.part {α : Type} {f : α -> List Value} {c : Nat} (hF : ∀ x, (f x).length = c) {w : World} {b off n cap : Nat} {l : List α} (h : RL f w (.slice (some ⟨b, off, none⟩) n cap) l) (j m : Nat) (hm : j + m <= l.length) : RL f w (.slice (some ⟨b, off + j * c, none⟩) m m) ((l.drop j).take m) := by
 obtain ⟨a, cap', hv, h1, h2, h3⟩ := h
 have hl : ((l.drop j).take m).length = m := by rw [List.length_take, List.length_drop]; omega
 refine ⟨_, m, by rw [hl], by rw [hl]; exact Nat.le_refl _, by omega, ?_⟩
 rcases h3 with h3 | ⟨b', off', ha, hc⟩
 ·left
  have h4 := flat_len hF l
  rw [h3, List.length_nil] at h4
  have h5 := flat_len hF ((l.drop j).take m)
  rw [hl] at h5
  have : m * c = 0 := by
   rcases Nat.mul_eq_zero.1 h4.symm with h6 | h6
   ·have : m = 0 := by omega
    rw [this, Nat.zero_mul]
   ·rw [h6, Nat.mul_zero]
  rw [this] at h5
  exact List.length_eq_zero_iff.1 h5
 ·right
  cases hv; cases ha
  refine ⟨b, off + j * c, rfl, fun i u hi => ?_⟩
  rw [Nat.add_assoc]
  apply hc
  have e : l.flatMap f = (l.take j).flatMap f ++ ((l.drop j).take m).flatMap f ++ ((l.drop j).drop m).flatMap f := by
   rw [<- List.flatMap_append, <- List.flatMap_append, List.append_assoc, List.take_append_drop, List.take_append_drop]
  have hl2 : ((l.take j).flatMap f).length = j * c := by rw [flat_len hF, List.length_take]; congr 1; omega
  rw [e, List.append_assoc, List.getElem?_append_right (by omega), hl2, Nat.add_sub_cancel_left, List.getElem?_append_left (List.getElem?_eq_some_iff.1 hi).1]
  exact hi
theorem St.partR {S : List Nat} {w0 w : World} {L : List Ent} {R : List Rd} (X : St S w0 w L R) {α : Type} {f : α -> List Value} {c : Nat} (hF : ∀ x, (f x).length = c) {b off n cap : Nat} {l : List α} (hR : Rd.of f (.slice (some ⟨b, off, none⟩) n cap) l ∈ R) (j m : Nat) (hm : j + m <= l.length) :
    St S w0 w L (Rd.of f (.slice (some ⟨b, off + j * c, none⟩) m m) ((l.drop j).take m) :: R) := by
 obtain ⟨h1, h2⟩ := X.rd _ hR
 refine X.addR (RL.part hF h1 j m hm) ?_
 rcases h2 with h2 | h2
 ·left
  have h3 : l.flatMap f = [] := h2
  have h4 := flat_len hF l
  rw [h3, List.length_nil] at h4
  have h5 := flat_len hF ((l.drop j).take m)
  rw [List.length_take, List.length_drop] at h5
  have : min m (l.length - j) * c = 0 := by
   rcases Nat.mul_eq_zero.1 h4.symm with h6 | h6
   ·have : min m (l.length - j) = 0 := by omega
    rw [this, Nat.zero_mul]
   ·rw [h6, Nat.mul_zero]
  rw [this] at h5
  exact List.length_eq_zero_iff.1 h5
 ·right
  intro b' hb e he
  cases hb
  exact h2 b rfl e he
theorem St.shortR {S : List Nat} {w0 w : World} {L : List Ent} {R : List Rd} (X : St S w0 w L R) {α : Type} {f : α -> List Value} {a : Option Addr} {cap : Nat} {l : List α} (hR : Rd.of f (.slice a l.length cap) l ∈ R) : St S w0 w L (Rd.of f (.slice a l.length l.length) l :: R) := by
 obtain ⟨⟨a', c', hv, h1, h3, h4⟩, h2⟩ := X.rd _ hR
 cases hv
 exact X.addR ⟨_, _, rfl, Nat.le_refl _, Nat.le_trans h1 h3, h4⟩ (h2.imp id fun h b hb => h b (by cases a with | none => cases hb | some x => exact hb))
section
variable {P : Program} {fn : Func} {F : Ending -> World -> Prop} {a : Act} {w w0 : World} {S : List Nat} {L : List Ent} {R : List Rd}
theorem leave0 (h : bodyPost P fn F .ret a w) : bodyPostM FW 0 P fn F .ret a w := by
 obtain ⟨hd, v, h1, h2⟩ := h
 show LeavesInM FW 0 P fn a.tmps F a.defers .returning w
 rw [hd]
 exact ⟨v, h1, h2⟩
theorem leaveD {D : Nat} {ds : List Deferred} {T : Array Value} (hD : w.heap[D]? = some (.deferred (some []))) (h : LeavesInM FW 0 P fn T F ds .returning (w.putObj D (.deferred none))) : LeavesInM FW 0 P fn T F ({ target := .collected D, args := #[] } :: ds) .returning w :=
 ⟨by simp, .inl ⟨_, _, rfl, run_takeDeferred hD, h⟩⟩
theorem m_leave2 {D1 D2 : Nat} {p q r : Tmp} {T : TypeId} (hr : fn.results = #[.cell p T, .tmp q, .tmp r]) {g : Nat} (hp : EvR a (.tmp p) (.pointer (some ⟨g, 0, none⟩))) {v u : Value} (hq : EvR a (.tmp q) v) (hu : EvR a (.tmp r) u) {n : Nat} [hT : AggT P T n] (X : St S w0 w L R)
    {cs : List Value} {t : TypeId} (he : ⟨g, cs, t⟩ ∈ L) (hn : cs.length = n) (hd : a.defers = [{ target := .collected D2, args := #[] }, { target := .collected D1, args := #[] }]) (h1 : w.heap[D1]? = some (.deferred (some []))) (h2 : w.heap[D2]? = some (.deferred (some []))) (h12 : D1 ≠ D2)
    (s1 : w0.heap.size <= D1) (s2 : w0.heap.size <= D2) (n1 : D1 ∉ S) (n2 : D2 ∉ S) (h : ∀ w', St S w0 w' L R -> F (.returned (.tuple #[.agg cs.toArray, v, u])) w') : bodyPostM FW 0 P fn F .ret a w := by
 have hp' : a.tmps[p]?.getD undef = .pointer (some ⟨g, 0, none⟩) := by have := hp.eval; simpa [Act.eval] using this
 have hq' : a.tmps[q]?.getD undef = v := by have := hq.eval; simpa [Act.eval] using this
 have hu' : a.tmps[r]?.getD undef = u := by have := hu.eval; simpa [Act.eval] using this
 have h1' : (w.putObj D2 (.deferred none)).heap[D1]? = some (.deferred (some [])) := (World.putObj_heap_other h12).trans h1
 have X2 := (X.putO (.deferred none) s2 h2 rfl n2).putO (.deferred none) s1 h1' rfl n1
 show LeavesInM FW 0 P fn a.tmps F a.defers .returning w
 rw [hd]
 refine leaveD h2 (leaveD h1' ⟨.tuple #[.agg cs.toArray, v, u], ?_, h _ X2⟩)
 simp [results, hr, hp', hq', hu', asAddr, X2.whole (T := T) he hn]
def leavePost (P : Program) (fn : Func) (F : Ending -> World -> Prop) : Exit -> Act -> World -> Prop
 | .ret, a, w => bodyPostM FW 0 P fn F .ret a w
 | .normal, a, w => bodyPostM FW 0 P fn F .normal a w
 | _, _, _ => False
theorem calls_marks {f : FuncId} {c : Code} {args : Array Value} {R : Ending -> World -> Prop} (hf : P.funcs[f]? = some fn) (hb : fn.body = some c)
    (h : c.wp P (leavePost P fn R) { tmps := args ++ Array.replicate (fn.ntmps - args.size) undef, defers := [] } w) : Calls P f args w R :=
 (callsIn_wide (n := 0)).1 (callsIn_of_wp_marks hf hb trivial ((wpIn_wide (n := 0)).2 (wp_mono h fun e a w hq => by cases e <;> first | exact hq | exact hq.elim)) rfl)
end
end Wb
namespace Go.Proofs.YtjhmfljlclajnadGreatDoor
open Go.RowKit Wb
instance aggHnd3 : AggT Tryz.prog 41 6 := ⟨⟨_, Tryz.underlying41, rfl⟩, by kernel_rfl⟩
section
variable {S : List Nat} {w0 w : World} {L LL : List Ent} {RR : List Rd} {g : Nat} {j : Jn} {M : List Ent} {Rj : List Rd}
theorem jr_RingS (F : JF g j M Rj) (X : St S w0 w LL RR) (hp : LL.Perm (M ++ L)) (hr : ∀ r ∈ Rj, r ∈ RR) :
    Calls Tryz.prog 9 #[.pointer (some ⟨g, 0, none⟩)] w fun e w' => e = .returned (.tuple #[.agg #[.int .i64 j.ring.head, .int .i64 j.ring.used], .int .i64 j.last, .bool j.down]) /\ St S w0 w' LL RR := by
 have X2 : St S w0 w (M ++ L) (Rj ++ RR) := (X.perm hp).rds fun r h => (List.mem_append.1 h).elim (hr r) id
 refine (jr_Ring F X2).mono ?_
 rintro e w' ⟨rfl, X3⟩
 exact ⟨rfl, (X3.perm hp.symm).rds fun r h => List.mem_append_right _ h⟩
theorem jr_DiskS (F : JF g j M Rj) (X : St S w0 w LL RR) (hp : LL.Perm (M ++ L)) (hr : ∀ r ∈ Rj, r ∈ RR) {d : Dsk} (hd : j.disk = d) :
    Calls Tryz.prog 18 #[.pointer (some ⟨g, 0, none⟩)] w fun e w' => ∃ a1 c1 a2 c2, e = .returned (.agg #[.slice a1 d.safe.length c1, .slice a2 d.writes.length c2]) /\ RDisk w' (.agg #[.slice a1 d.safe.length c1, .slice a2 d.writes.length c2]) d /\ St S w0 w' LL (Rd.of wrC (.slice a2 d.writes.length c2) d.writes :: Rd.of strC (.slice a1 d.safe.length c1) d.safe :: RR) := by
 subst hd
 have X2 : St S w0 w (M ++ L) (Rj ++ RR) := (X.perm hp).rds fun r h => (List.mem_append.1 h).elim (hr r) id
 have hg : goodD j.disk = true := by obtain ⟨v, ds, fs, MD, MU, hm, _⟩ := F; exact (hm.inv.sz hm.sz).dk
 refine (jr_Disk F X2).mono ?_
 rintro e w' ⟨a1, c1, a2, c2, rfl, X3⟩
 refine ⟨a1, c1, a2, c2, rfl, ⟨_, _, rfl, X3.read (.tail _ (.head _)), X3.read (.head _), ?_, ?_⟩, (X3.perm hp.symm).rds fun r h => ?_⟩
 ·have := (goodD_len hg).1; omega
 ·have := (goodD_len hg).2; omega
 ·rcases List.mem_cons.1 h with rfl | h
  ·exact .head _
  rcases List.mem_cons.1 h with rfl | h
  ·exact .tail _ (.head _)
  ·exact .tail _ (.tail _ (List.mem_append_right _ h))
end
theorem top_home (K : JK) {S : List Nat} {w0 w : World} {L LL : List Ent} {RR : List Rd} {g : Nat} {j : Jn} {M : List Ent} {Rj : List Rd} (F : JF g j M Rj) (X : St S w0 w LL RR) (hp : LL.Perm (M ++ L)) (hr : ∀ r ∈ Rj, r ∈ RR) {b : Int} (hb : isBlk b = true) :
    Calls Tryz.prog 12 #[.pointer (some ⟨g, 0, none⟩), .int .i64 b] w fun e w' => e = .returned (.string (readD j.disk (25 + b))) /\ St S w0 w' LL RR := by
 have hDk := hid (jr_DiskS F X hp hr (d := j.disk) rfl)
 have hRe := hid (fun v w h => K.read j.disk (25 + b) v w h)
 have hwb : IntKind.i64.wrap (25 + b) = 25 + b := by
  unfold isBlk at hb
  have := of_decide_eq_true hb
  exact IntWalk.i64_in _ (by omega)
 generalize readD j.disk (25 + b) = T at *
 generalize readE j.disk (25 + b) = eT at *
 go_enter Tryz.func12, Tryz.ntmps12
 go_wp2_with (first
  | (refine ZyL ?_) | (refine ZyS ?_; clear X; intro w X) | (refine ZyA ?_; clear X; intro g w X)
  | (go_at_call 18; ((with_reducible refine (hDk.out).mono ?_); rintro e w1 ⟨a1, c1, a2, c2, rfl, hRD, X2⟩; replace X := X2; clear X2))
  | (go_at_call 23; ((with_reducible refine (hRe.out _ _ hRD).mono ?_); rintro e w1 ⟨rfl, hb1⟩; replace X := X.call hb1; clear hb1)))
 go_ret
 exact ⟨rfl, X.rds (fun r h => .tail _ (.tail _ h))⟩
end Go.Proofs.YtjhmfljlclajnadGreatDoor
namespace Wb
open Go Go.RowKit
theorem isBlk_nat {n : Nat} (h : n < 12) : isBlk (n : Int) = true := by unfold isBlk; simp; omega
theorem St.gs5o {S : List Nat} {w0 w : World} {a b c : Nat} {ca cb cc : List Value} {ta tb tc : TypeId} {L : List Ent} {R : List Rd} (_ : St S w0 w (⟨a, ca, ta⟩ :: ⟨b, cb, tb⟩ :: ⟨c, cc, tc⟩ :: L) R) : ∃ x1 x2 x3, x1 = a /\ x2 = b /\ x3 = c := ⟨_, _, _, rfl, rfl, rfl⟩
end Wb
namespace Go.Proofs.YtjhmfljlclajnadGreatDoor
open Go.RowKit Wb
instance : OneT Tryz.prog 23 := ⟨⟨_, Tryz.underlying23, rfl⟩, by kernel_rfl⟩
instance : SlT Tryz.prog 23 47 2 24 := ⟨Elem.mk' (z := .agg #[.int .i64 0, .string ⟨#[]⟩]) Tryz.underlying23 (by kernel_rfl) rfl, by decide, by decide, by decide⟩
instance : AggT Tryz.prog 47 2 := ⟨⟨_, Tryz.underlying47, rfl⟩, by kernel_rfl⟩
instance : ZeroT Tryz.prog 47 [.int .i64 0, .string ⟨#[]⟩] := ⟨by kernel_rfl⟩
theorem jr_RunS {S : List Nat} {w0 w : World} {L LL : List Ent} {RR : List Rd} {g : Nat} {j : Jn} {M : List Ent} {Rj : List Rd} (F : JF g j M Rj) (X : St S w0 w LL RR) (hp : LL.Perm (M ++ L)) (hr : ∀ r ∈ Rj, r ∈ RR) :
    Calls Tryz.prog 10 #[.pointer (some ⟨g, 0, none⟩)] w fun e w' => ∃ v1 v2 v3, e = .returned (txnV j.now v1 v2 v3) /\ St S w0 w' LL RR := by
 have X2 : St S w0 w (M ++ L) (Rj ++ RR) := (X.perm hp).rds fun r h => (List.mem_append.1 h).elim (hr r) id
 refine (jr_Running F X2).mono fun e w' hh => ?_
 obtain ⟨a1, c1, a2, c2, a3, c3, he, X3⟩ := hh
 exact ⟨_, _, _, he, (X3.perm hp.symm).rds fun r h => .tail _ (.tail _ (.tail _ (List.mem_append_right _ h)))⟩
def orT (gw gD : Nat) (s : Ob) (Ms : List Ent) (Rs : List Rd) : Prop := ∃ vs Mr, Ms = ⟨gw, [.bool s.down], 4⟩ :: ⟨gD, vs, 24⟩ :: Mr /\ RowsM 47 vs (dsOf s.data) Mr /\ Rs = []
def orP (l : List Aj) (k : Nat) (s : Ob) : Prop := OJ s (jAt l k) /\ ∀ b, (s.data b).length <= k
theorem Zord {A : Prop} (h : A := by
 go_wp2_with (first
  | go_skip
  | (refine ZyL ?_) | (refine ZyS ?_; clear X; intro w X) | (refine ZyA ?_; clear X; intro g w X)
  | (refine at_mem rfl ?_; refine at_store rfl ?_; refine c_store1 rfl _ _ _ rfl rfl Zev X rfl rfl (PutA.there (PutA.there (PutA.there (PutA.there (PutA.here (by simp only [List.length_cons, List.length_nil]; omega)))))) ?_; intro w X2; replace X := X2; clear X2; (simp only [Act.put, zA, zB, zC, zD, zE, zF, zG, Nat.reduceAdd]))
  | (refine at_mem rfl ?_; refine at_store rfl ?_; refine c_store1 rfl _ _ _ rfl rfl Zev X rfl rfl (PutA.there (PutA.there (PutA.there (PutA.there (PutA.there (PutA.here (by simp only [List.length_cons, List.length_nil]; omega))))))) ?_; intro w X2; replace X := X2; clear X2; (simp only [Act.put, zA, zB, zC, zD, zE, zF, zG, Nat.reduceAdd])))
 go_roundw
 case rel => first
  | exact ⟨n + 1, _, _, by omega, by go_num, hR2.out, X.sub subRow⟩
  | exact ⟨n + 1, _, _, by omega, by go_num, hR2.out, X.sub (.cons _ subRow)⟩
 case measure => simp [intOf]; omega) : A := h
theorem or_look (K : JK) {S : List Nat} {w0 : World} {R : List Rd} (l : List Aj) (hok : ∀ a ∈ l, a.text.size <= 9223372036854775807 /\ a.n <= 9223372036854775807) (gw gD : Nat) : LookF S w0 R l 8 #[.pointer (some ⟨gw, 0, none⟩), .pointer (some ⟨gD, 0, none⟩)] (orT gw gD) (orP l) := by
 intro k hk h150 s hP L gj w M Rj Ms Rs F hT X
 obtain ⟨vs, Mr, rfl, hR, rfl⟩ := hT
 obtain ⟨hO, hlen⟩ := hP
 obtain ⟨h1, h2⟩ := ord_do l[k] hO
 have hlen2 := seeO_len (j := (doJ (jAt l k) l[k]).1) (a := l[k]) (r := (doJ (jAt l k) l[k]).2) hlen
 have hbk : (l[k].kind = 2 \/ l[k].kind = 3 \/ l[k].kind = 4) -> (doJ (jAt l k) l[k]).2.code = 0 -> isBlk l[k].b = true := fun hq hc => blk_of hq hc
 rw [<- jAt_succ hk] at h1 h2 hlen2
 obtain ⟨PP, hPP⟩ : ∃ PP : World -> Prop, ∀ w', PP w' ↔ (∃ s' M' Rj' Ms' Rs', orP l (k + 1) s' /\ JF gj (jAt l (k + 1)) M' Rj' /\ orT gw gD s' Ms' Rs' /\ St S w0 w' (M' ++ (Ms' ++ L)) (Rj' ++ (Rs' ++ R))) := ⟨_, fun _ => Iff.rfl⟩
 refine Calls.mono (R := fun e w' => e = .returned (.bool true) /\ PP w') ?_ (fun e w' ⟨he, hp⟩ => by
  obtain ⟨s', M', Rj', Ms', Rs', h⟩ := (hPP w').1 hp
  exact ⟨s', M', Rj', Ms', Rs', he, h⟩)
 have fin : ∀ (w' : World) (x y z : Ent) (s' : Ob) (vs' : List Value) (Mr' : List Ent), s' = seeO s (jAt l (k + 1)) l[k] (doJ (jAt l k) l[k]).2 -> RowsM 47 vs' (dsOf s'.data) Mr' -> St S w0 w' (x :: y :: z :: ⟨gw, [.bool s'.down], 4⟩ :: ⟨gD, vs', 24⟩ :: (M ++ (Mr' ++ L))) (Rj ++ R) -> PP w' := by
  intro w' x y z s' vs' Mr' hs hR X
  refine (hPP w').2 ⟨s', M, Rj, _, [], ⟨by rw [hs]; exact h1, by rw [hs]; exact hlen2⟩, F, ⟨vs', Mr', rfl, hR, rfl⟩, ?_⟩
  exact (X.sub (.cons _ (.cons _ (.cons _ (List.Sublist.refl _))))).perm (perm2J _ _ _ _)
 clear hPP hlen2 h1
 replace X : St S w0 w (⟨gw, [.bool s.down], 4⟩ :: ⟨gD, vs, 24⟩ :: (M ++ (Mr ++ L))) (Rj ++ R) := X.perm (perm2J _ _ _ _).symm
 have htx : l[k].text.size <= 9223372036854775807 := (hok _ (List.getElem_mem hk)).1
 have hFi := fun w => K.fit l[k].text w htx
 obtain ⟨UP, hUP⟩ : ∃ UP, seeO s (jAt l (k + 1)) l[k] (doJ (jAt l k) l[k]).2 = UP := ⟨_, rfl⟩
 rw [hUP] at fin
 generalize (doJ (jAt l k) l[k]).2 = rep at *
 obtain ⟨rc, rn, rt⟩ := rep
 have u0 : rc ≠ 0 -> UP = { s with down := (jAt l (k + 1)).down } := fun h => by rw [<- hUP]; exact seeO_bad h
 have u2 : rc = 0 -> (l[k].kind = 2 \/ l[k].kind = 4) -> UP = ⟨setL s.data l[k].b [], (jAt l (k + 1)).down⟩ := fun h h2 => by
  rw [<- hUP]; unfold seeO; rw [if_neg (fun hh => hh h), if_pos h2]
 have u3 : rc = 0 -> l[k].kind = 3 -> UP = ⟨setL s.data l[k].b (s.data l[k].b ++ [⟨(jAt l (k + 1)).now.seq, fit l[k].text⟩]), (jAt l (k + 1)).down⟩ := fun h h2 => by
  rw [<- hUP]; unfold seeO; rw [if_neg (fun hh => hh h), if_neg (by omega), if_pos h2]
 have u8 : rc = 0 -> l[k].kind = 8 -> s.down = true -> (jAt l (k + 1)).down = false -> UP = ⟨fun _ => [], (jAt l (k + 1)).down⟩ := fun h h2 h3 h4 => by
  rw [<- hUP]; unfold seeO; rw [if_neg (fun hh => hh h), if_neg (by omega), if_neg (by omega), if_pos ⟨h2, h3, h4⟩]
 have ue : l[k].kind ≠ 2 -> l[k].kind ≠ 3 -> l[k].kind ≠ 4 -> (l[k].kind = 8 -> s.down = false \/ (jAt l (k + 1)).down = true) -> UP = { s with down := (jAt l (k + 1)).down } := fun h2 h3 h4 h8 => by rw [<- hUP]; exact seeO_else h2 h3 h4 h8
 clear hUP hO htx
 unfold okO at h2
 have hLb := hlen
 show Calls Tryz.prog _ #[.pointer (some ⟨gj, 0, none⟩), .agg #[.int .i64 l[k].kind, .int .i64 l[k].h, .int .i64 l[k].b, .int .i64 l[k].n, .string l[k].text], .agg #[.int .i64 rc, .int .i64 rn, .string rt], .pointer (some ⟨gw, 0, none⟩), .pointer (some ⟨gD, 0, none⟩)] w _
 generalize jAt l (k + 1) = J at *
 obtain ⟨sd, sw⟩ := s
 dsimp only at hbk h2 u0 u2 u3 u8 ue X hR hLb
 generalize l[k].kind = kd, l[k].h = hh, l[k].b = bb, l[k].n = nn, l[k].text = tx at *
 have hRg := hid (fun (w' : World) (x y z t : Ent) (Y : St S w0 w' (x :: y :: z :: t :: (M ++ (Mr ++ L))) (Rj ++ R)) => jr_RingS F Y (perm4Jo _ _ _ _ _ _) (fun r h => List.mem_append_left _ h))
 have hvl : vs.length = 12 := by rw [hR.len, dsOf_len]
 obtain ⟨jd, hjd⟩ : ∃ jd, J.down = jd := ⟨_, rfl⟩
 obtain ⟨jl, hjl⟩ : ∃ jl, J.last = jl := ⟨_, rfl⟩
 rw [hjd, hjl] at hRg
 rw [hjd] at u0 u2 u3 u8 ue h2
 rw [hjl] at h2
 clear hjd hjl hlen
 replace fin := hid fin; replace hFi := hid hFi; replace hbk := hid hbk; replace h2 := hid h2; replace u0 := hid u0; replace u2 := hid u2; replace u3 := hid u3; replace u8 := hid u8; replace ue := hid ue; replace F := hid F; replace hR := hid hR; replace hvl := hid hvl; replace hLb := hid hLb
 go_enter Tryz.func8, Tryz.ntmps8
 go_upto_if 29 with (first
  | (refine Zbx ?_; clear X; intro g w X)
  | (refine ZyL ?_) | (refine ZyS ?_; clear X; intro w X) | (refine ZyA ?_; clear X; intro g w X)
  | (go_at_call 9; ((with_reducible refine (hRg.out _ _ _ _ _ X).mono ?_); rintro e w1 ⟨rfl, X2⟩; replace X := X2; clear X2)))
 obtain ⟨g1, g2, g3, rfl, rfl, rfl⟩ := X.gs5o
 clear hRg
 by_cases hrc : rc = 0
 rotate_left
 ·have hne : (rc != 0) = true := by simpa using hrc
  have hk := hid (u0.out hrc)
  replace hrc := hid hrc
  go_wp2_with (first
   | go_skip
   | (refine ZyL ?_) | (refine ZyS ?_; clear X; intro w X) | (refine ZyA ?_; clear X; intro g w X))
  go_ret
  exact ⟨rfl, fin.out _ _ _ _ ⟨sd, jd⟩ _ _ hk.out.symm hR.out X⟩
 subst hrc
 by_cases h24 : kd = 2 \/ kd = 4
 ·have hb := hbk.out (by omega) rfl
  have hk := hid (u2.out rfl h24)
  obtain ⟨n, rfl, hn⟩ := blk_nat hb
  have hn3 : (n : Int) < 12 := by omega
  obtain ⟨MA, Mn, MB, v, l0, hMr, hv, hl0, hOn, hset⟩ := hR.out.at (n := n) (by rw [dsOf_len]; exact hn)
  subst hMr
  have hR2 := hset _ _ _ (OwnM.nil gotC 47 2)
  rw [dsOf_set _ hn] at hR2
  replace hR2 := hid hR2
  replace hvl := hvl.out
  clear hb hR hv hl0 hOn hset u0 u2 u3 u8 ue h2
  rcases h24 with rfl | rfl
  all_goals
   go_upto_region 12 with (first
    | go_skip
    | (refine ZyL ?_) | (refine ZyS ?_; clear X; intro w X) | (refine ZyA ?_; clear X; intro g w X)
    | (refine at_mem rfl ?_; refine at_store rfl ?_; (refine c_store1 rfl _ _ _ rfl rfl Zev X rfl rfl (PutA.there (PutA.there (PutA.there (PutA.there (PutA.here (by simp only [List.length_cons, List.length_nil]; omega)))))) ?_); intro w X2; replace X := X2; clear X2; (simp only [Act.put, zA, zB, zC, zD, zE, zF, zG, Nat.reduceAdd])))
   cases sw
   all_goals
    cases jd
    all_goals
     go_wp2_with (first
      | go_skip
      | (refine ZyL ?_) | (refine ZyS ?_; clear X; intro w X) | (refine ZyA ?_; clear X; intro g w X))
     go_ret
     exact ⟨rfl, fin.out _ _ _ _ ⟨setL sd n [], _⟩ _ _ hk.out.symm hR2.out (X.sub subRow)⟩
 by_cases h3 : kd = 3
 ·subst h3
  have hb := hbk.out (by omega) rfl
  have hk := hid (u3.out rfl rfl)
  obtain ⟨n, rfl, hn⟩ := blk_nat hb
  have hn3 : (n : Int) < 12 := by omega
  obtain ⟨MA, Mn, MB, v, l0, hMr, hv, hl0, hOn, hset⟩ := hR.out.at (n := n) (by rw [dsOf_len]; exact hn)
  subst hMr
  rw [dsOf_get _ hn, Option.some.injEq] at hl0
  subst hl0
  have h40 : (sd n).length + 1 <= 1099511627776 := by have := hLb.out n; omega
  replace hset := hid hset
  replace X := X.perm (perm5Row _ _ _ _ _ _ _ _ _ _)
  have hRn := hid (fun (w' : World) (x y z t u : Ent) (Y : St S w0 w' (x :: y :: z :: t :: u :: (Mn ++ (M ++ (MA ++ (MB ++ L))))) (Rj ++ R)) => jr_RunS F.out Y (perm5N _ _ _ _ _ _ _ _) (fun r h => List.mem_append_left _ h))
  unfold txnV at hRn
  generalize J.now.seq = sq at *
  replace hvl := hvl.out
  clear hb hR u0 u2 u3 u8 ue h2 h24
  go_upto_region 11 with (first
   | go_skip
   | (refine ZyL ?_) | (refine ZyS ?_; clear X; intro w X) | (refine ZyA ?_; clear X; intro g w X))
  (refine q_startS 5 [16] [7, 11, 13, 14, 16] [1, 3, 5, 10] [0, 1, 2, 3, 4, 5, 6, 9, 10, 7, 8, 11, 12, 13, 14, 15, 16] X ?_; clear X; intro hQ X hL; simp only [zF, zG] at hL; simp only [zF, zG])
  refine Zf ?_
  refine Zl ?_
  refine Zf ?_
  refine Zl ?_
  refine Zg ?_
  ((refine d_load1 rfl rfl Zev (ReadA.there (ReadA.there (ReadA.there (ReadA.there (ReadA.here hv))))) rfl rfl X hL hQ ?_); (simp only [Act.put, zA, zB, zC, zD, zE, zF, zG, Nat.reduceAdd]))
  refine Zm ?_
  refine Zf ?_
  refine Zl ?_
  (refine q_callS 10 Tryz.func10 (hRn.out _ _ _ _ _ _ X) ?_; rintro e w1 ⟨v1, v2, v3, rfl, X2⟩; replace X := X2; clear X2; refine Zce ?_; clear hL; intro hL)
  refine Zg ?_
  (refine q_callS 11 Tryz.func11 (hFi.out _) ?_; rintro e w1 ⟨rfl, hb1⟩; replace X := X.call hb1; clear hb1; refine Zce ?_; clear hL; intro hL)
  refine Zg ?_
  (refine q_build1 rfl rfl Zev (by rfl) (by rfl) X hL rfl rfl ?_; intro g w X2 hL2; replace X := X2; replace hL := hL2; clear X2 hL2; (simp only [Act.put, zA, zB, zC, zD, zE, zF, zG, Nat.reduceAdd]))
  refine q_app [_, _, _, _, _] rfl rfl [⟨sq, fit tx⟩] gotC_flat X hOn Zev Zev rfl rfl h40 hL (List.Sublist.refl _) rfl rfl ?_
  intro a' cap' w' Mn' hO' X2 hL2
  simp only [List.cons_append, List.nil_append] at X2 hL2
  replace X := X2
  replace hL := hL2
  clear X2 hL2
  (simp only [Act.put, zA, zB, zC, zD, zE, zF, zG, Nat.reduceAdd])
  refine Zg ?_
  ((refine d_brk1 rfl rfl Zev Zev X rfl rfl rfl rfl rfl (PutA.there (PutA.there (PutA.there (PutA.there (PutA.here (by simp only [List.length_cons, List.length_nil]; omega)))))) ?_); intro w X2; replace X := X2; clear X2; (simp only [Act.put, zA, zB, zC, zD, zE, zF, zG, Nat.reduceAdd]))
  refine q_nil ?_
  have hR2 := hset.out _ _ _ hO'
  rw [dsOf_set _ hn] at hR2
  replace hR2 := hid hR2
  replace X := X.perm (perm5Row _ _ _ _ _ _ _ _ _ _).symm
  clear hset hv hL hO' hRn hvl
  cases sw
  all_goals
   cases jd
   all_goals
    go_wp2_with (first
     | go_skip
     | (refine ZyL ?_) | (refine ZyS ?_; clear X; intro w X) | (refine ZyA ?_; clear X; intro g w X))
    go_ret
    exact ⟨rfl, fin.out _ _ _ _ ⟨_, _⟩ _ _ hk.out.symm hR2.out X⟩
 have h2' : kd ≠ 2 := fun h => h24 (.inl h)
 have h4' : kd ≠ 4 := fun h => h24 (.inr h)
 have f2 : (kd == 2) = false := beq_eq_false_iff_ne.2 h2'
 have f3 : (kd == 3) = false := beq_eq_false_iff_ne.2 h3
 have f4 : (kd == 4) = false := beq_eq_false_iff_ne.2 h4'
 by_cases hq : kd = 8 -> sw = false \/ jd = true
 ·have hk := hid (ue.out h2' h3 h4' hq)
  have hc : (sw = false \/ (sw = true /\ jd = true)) \/ (sw = true /\ jd = false /\ (kd != 8) = true) := by
   cases sw with
   | false => exact .inl (.inl rfl)
   | true => cases jd with
    | true => exact .inl (.inr ⟨rfl, rfl⟩)
    | false => exact .inr ⟨rfl, rfl, bne_iff_ne.2 fun h8 => (hq h8).elim (fun h => Bool.noConfusion h) (fun h => Bool.noConfusion h)⟩
  clear u0 u2 u3 u8 ue h2 h24 h3 h2' h4' hq
  rcases hc with (rfl | ⟨rfl, rfl⟩) | ⟨rfl, rfl, f8⟩
  all_goals
   go_wp2_with (first
    | go_skip
    | (refine ZyL ?_) | (refine ZyS ?_; clear X; intro w X) | (refine ZyA ?_; clear X; intro g w X))
   go_ret
   exact ⟨rfl, fin.out _ _ _ _ ⟨sd, _⟩ _ _ hk.out.symm hR.out X⟩
 obtain ⟨rfl, rfl, rfl⟩ : kd = 8 /\ sw = true /\ jd = false := by
  refine ⟨Classical.byContradiction fun h => hq fun h8 => absurd h8 h, ?_, ?_⟩
  ·cases sw with
   | true => rfl
   | false => exact absurd (fun _ => .inl rfl) hq
  ·cases jd with
   | false => rfl
   | true => exact absurd (fun _ => .inr rfl) hq
 have hk := hid (u8.out rfl rfl rfl rfl)
 have hor := hid (h2.out rfl rfl rfl rfl)
 clear u0 u2 u3 u8 ue h2 h24 h3 h2' h4' hq
 go_wp2_with (first
  | go_skip
  | (refine ZyL ?_) | (refine ZyS ?_; clear X; intro w X) | (refine ZyA ?_; clear X; intro g w X))
 go_loopw [13, 14, 15, 16, 17, 66] (fun _ _ _ _ _ i wr => ∃ (n : Nat) (vs : List Value) (Mr : List Ent), n <= 12 /\ i = .int .i64 (n : Int) /\ RowsM 47 vs (dsOf (cutF sd n)) Mr /\ St S w0 wr (⟨g1, [.int .i64 J.ring.head, .int .i64 J.ring.used], 34⟩ :: ⟨g2, [.int .i64 0, .int .i64 rn, .string rt], 32⟩ :: ⟨g3, [.int .i64 8, .int .i64 hh, .int .i64 bb, .int .i64 nn, .string tx], 29⟩ :: ⟨gw, [.bool false], 4⟩ :: ⟨gD, vs, 24⟩ :: (M ++ (Mr ++ L))) (Rj ++ R)) (fun _ _ _ _ _ i _ => 12 - (intOf i).toNat)
 case atStart => exact ⟨0, vs, Mr, Nat.zero_le _, rfl, by rw [dsOf_cut0]; exact hR.out, X⟩
 case round =>
  clear X hR hvl vs Mr
  obtain ⟨n, vs, Mr, hn12, rfl, hR, X⟩ := hrel
  have hvl : vs.length = 12 := by rw [hR.len, dsOf_len]
  by_cases hlt : n < 12
  ·have hn3 : (n : Int) < 12 := by omega
   have hb := isBlk_nat hlt
   obtain ⟨MA, Mn, MB, v, l0, hMr, hv, hl0, hOn, hset⟩ := hR.at (n := n) (by rw [dsOf_len]; exact hlt)
   subst hMr
   rw [dsOf_get _ hlt, Option.some.injEq, cutF_at] at hl0
   subst hl0
   have hR2 := hset _ _ _ (OwnM.nil gotC 47 2)
   rw [dsOf_set _ hlt, cutF_set] at hR2
   replace hR2 := hid hR2
   have ho := hor.out n hb
   have hHm := hid (top_home K F.out X (perm5J _ _ _ _ _ _ _) (fun r h => List.mem_append_left _ h) hb)
   generalize readD J.disk (25 + (n : Int)) = hs at *
   have hlb := hLb.out n
   generalize sd n = l0 at *
   obtain ⟨av, cv, rfl⟩ := hOn.form
   have hwl : IntKind.i64.wrap ((l0.length : Int) - 1) = (l0.length : Int) - 1 := IntWalk.i64_in _ (by omega)
   have hwn : IntKind.i64.wrap ((n : Int) + 1) = (n : Int) + 1 := IntWalk.i64_in _ (by omega)
   rw [nth_get] at hv
   replace hb := hid hb; replace ho := hid ho; replace hOn := hid hOn; replace hv := hid hv; replace hlb := hid hlb
   clear hset hR
   go_upto_region 19 with (first
    | go_skip
    | (refine ZyL ?_) | (refine ZyS ?_; clear X; intro w X) | (refine ZyA ?_; clear X; intro g w X)
    | (go_at_call 12; ((with_reducible refine (hHm.out).mono ?_); rintro e w1 ⟨rfl, X2⟩; replace X := X2; clear X2)))
   clear hHm
   have hcell := (X.cell (.tail _ (.tail _ (.tail _ (.tail _ (.head _))))) n).trans hv.out
   go_wp2
   obtain ⟨wo, rfl⟩ : ∃ wo : World, wo = w1 := ⟨_, rfl⟩
   go_loopw [15, 16, 17] (fun mu ma i wr2 => ∃ (q : Nat) (i0 : Int) (must may : Bool), q <= l0.length /\ i = .int .i64 i0 /\ i0 = (q : Int) - 1 /\ mu = .bool must /\ ma = .bool may /\ Hid (ordI l0 jl hs q must may) /\ St S w0 wr2 (⟨g1, [.int .i64 J.ring.head, .int .i64 J.ring.used], 34⟩ :: ⟨g2, [.int .i64 0, .int .i64 rn, .string rt], 32⟩ :: ⟨g3, [.int .i64 8, .int .i64 hh, .int .i64 bb, .int .i64 nn, .string tx], 29⟩ :: ⟨gw, [.bool false], 4⟩ :: ⟨gD, vs, 24⟩ :: (M ++ ((MA ++ (Mn ++ MB)) ++ L))) (Rj ++ R)) (fun _ _ i _ => (intOf i + 1).toNat)
   case atStart => exact ⟨l0.length, _, false, false, Nat.le_refl _, rfl, rfl, rfl, rfl, hid (ordI_start _ _ _), X⟩
   case round =>
    clear X hcell
    obtain ⟨q, i0, must, may, hq, rfl, hi0, rfl, rfl, hI, X⟩ := hrel
    have hcell := (X.cell (.tail _ (.tail _ (.tail _ (.tail _ (.head _))))) n).trans hv.out
    have hfin := hid (ordI_end hI.out)
    rcases q with _ | p
    ·obtain rfl : i0 = -1 := by omega
     clear hi0
     cases must with
     | false => exact Zord
     | true =>
      obtain rfl : may = true := hfin.out rfl
      exact Zord
    ·obtain rfl : i0 = (p : Int) := by omega
     clear hi0
     have hp : p < l0.length := by omega
     have hp3 : (p : Int) < (l0.length : Int) := by omega
     have hwp : IntKind.i64.wrap ((p : Int) - 1) = (p : Int) - 1 := IntWalk.i64_in _ (by have := hlb.out; omega)
     obtain ⟨b9, o9, rfl, d0, d1⟩ := RL.at2 (fun g : Got => .int .i64 g.seq) (fun g => .string g.text) (fun _ => rfl) (hOn.out.reads (fun x hx => X.blk x (.tail _ (.tail _ (.tail _ (.tail _ (.tail _ (List.mem_append_right _ (List.mem_append_left _ (List.mem_append_right _ (List.mem_append_left _ hx))))))))))) hp
     cases must with
     | true =>
      obtain rfl : may = true := hfin.out rfl
      exact Zord
     | false =>
      have hst := ordI_step ho.out hp hI.out
      generalize l0[p] = gg at *
      obtain ⟨gs, gt⟩ := gg
      dsimp only at hst d0 d1
      replace hst := hid hst; replace hp := hid hp
      cases may
      all_goals
       go_wp2_with (first
        | go_skip
        | (refine ZyL ?_) | (refine ZyS ?_; clear X; intro w X) | (refine ZyA ?_; clear X; intro g w X))
       go_roundw
       case rel => exact ⟨p, _, _, _, by have := hp.out; omega, rfl, rfl, rfl, rfl, hst, X.sub (.cons _ (List.Sublist.refl _))⟩
       case measure => simp [intOf]
  ·obtain rfl : n = 12 := by omega
   rw [dsOf_cut12] at hR
   replace hR := hid hR
   go_wp2_with (first
    | go_skip
    | (refine ZyL ?_) | (refine ZyS ?_; clear X; intro w X) | (refine ZyA ?_; clear X; intro g w X))
   go_ret
   exact ⟨rfl, fin.out _ _ _ _ ⟨fun _ => [], false⟩ _ _ hk.out.symm hR.out X⟩
instance : ZeroT Tryz.prog 24 [.slice none 0 0, .slice none 0 0, .slice none 0 0, .slice none 0 0, .slice none 0 0, .slice none 0 0, .slice none 0 0, .slice none 0 0, .slice none 0 0, .slice none 0 0, .slice none 0 0, .slice none 0 0] := ⟨by kernel_rfl⟩
theorem law_TopOrdered (K : JK) (l : List Aj) (hok : ∀ a ∈ l, a.text.size <= 9223372036854775807 /\ a.n <= 9223372036854775807) {al : Option Addr} {cl : Nat} (w0 : World) (hl : RL ajC w0 (.slice al l.length cl) l) (hF : Sl w0 (flR 0).v 1 (flR 0).cs) :
    Calls Tryz.prog 3 #[.slice al l.length cl] w0 fun e w' => e = .returned (.bool true) /\ Below w0.heap.size w0 w' := by
 have X : St [] w0 w0 [] [Rd.of ajC (.slice al l.length cl) l, flR 0] := ((St.start [] w0).addR0 hF).addR0 hl
 have hPl := hid (fun (w1 : World) (gw gD : Nat) (X : St [] w0 w1 [⟨gw, [.bool false], 4⟩, ⟨gD, [.slice none 0 0, .slice none 0 0, .slice none 0 0, .slice none 0 0, .slice none 0 0, .slice none 0 0, .slice none 0 0, .slice none 0 0, .slice none 0 0, .slice none 0 0, .slice none 0 0, .slice none 0 0], 24⟩] [Rd.of ajC (.slice al l.length cl) l, flR 0]) =>
  jr_play (L := []) K l hok 8 #[.pointer (some ⟨gw, 0, none⟩), .pointer (some ⟨gD, 0, none⟩)] (orT gw gD) (orP l) ⟨fun _ => [], false⟩ [⟨gw, [.bool false], 4⟩, ⟨gD, [.slice none 0 0, .slice none 0 0, .slice none 0 0, .slice none 0 0, .slice none 0 0, .slice none 0 0, .slice none 0 0, .slice none 0 0, .slice none 0 0, .slice none 0 0, .slice none 0 0, .slice none 0 0], 24⟩] [] ⟨_, [], rfl, rows_nil _ 12, rfl⟩ ⟨ord_new, fun _ => Nat.zero_le _⟩ X (.tail _ (.head _)) (.head _) ⟨_, _, Tryz.func8, by kernel_rfl, rfl⟩ (or_look K l hok gw gD))
 generalize jAt l (min l.length 150) = J at *
 go_enter Tryz.func3, Tryz.ntmps3
 go_upto_region 3 with (first
  | (refine ZyL ?_) | (refine ZyS ?_; clear X; intro w X) | (refine ZyA ?_; clear X; intro g w X))
 have hP := hid (hPl.out _ _ _ X)
 clear hPl
 go_wp2_with (first
  | (refine ZyL ?_) | (refine ZyS ?_; clear X; intro w X) | (refine ZyA ?_; clear X; intro g w X)
  | (go_at_call 7; ((with_reducible refine (hP.out).mono ?_); rintro e w1 ⟨gj, M, Rj, s, Ms, Rs, rfl, F, hT, hP1, X2⟩; replace X := X2; clear X2)))
 go_ret
 exact ⟨rfl, X.below⟩
theorem disk_Put_good (d : Dsk) (n : Int) (t : ByteArray) (v : Value) (w : World) (hd : RDisk w v d) (hg : goodD d = true) (ha : isAt n = true) (h32 : t.size = 32) (h200 : ¬ 200 <= d.writes.length) :
    Calls Tryz.prog 36 #[v, .int .i64 n, .string t] w fun e w' => ∃ v', e = .returned (.tuple #[v', .int .i64 0]) /\ RDisk w' v' ⟨d.safe, d.writes ++ [⟨n, t⟩]⟩ /\ NewD w.heap.size w' v v' d ⟨d.safe, d.writes ++ [⟨n, t⟩]⟩ /\ Below w.heap.size w w' := by
 have hG := fun w (hh : RDisk w v d) => disk_Good d v w hh
 have hA := fun w => disk_at n w
 rw [hg] at hG
 rw [ha] at hA
 have e1 : ((t.size : Int) != 32) = false := by rw [h32]; rfl
 have hd2 := hd
 obtain ⟨vs, vw, rfl, hs, hw, n1, n2⟩ := hd
 obtain ⟨a, cap, rfl, ca1, ca2⟩ := hs.form
 obtain ⟨b, bcap, rfl, cb1, cb2⟩ := hw.form
 replace hd2 := hid hd2
 clear hg ha h32
 obtain ⟨safe, writes⟩ := d
 dsimp only at *
 have hC := fun v w (hh : RL wrC w v writes) => clone_Writes writes v w hh n2
 replace hG := hid hG
 replace hA := hid hA
 replace hC := hid hC
 replace hs := hid hs
 replace hw := hid hw
 go_enter Tryz.func36, Tryz.ntmps36
 go_wp2_with (first
  | (go_at_call 46; refine (hG.out _ (hd2.out.below (by exact Zlo))).mono ?_; rintro e w1 ⟨rfl, hb1⟩; obtain ⟨hbc, hbf⟩ := bcell hb1; have hbz := hb1.size; try simp only [World.size_alloc, World.size_setCell, World.size_drew] at hbz; have hz0 := Nat.lt_of_lt_of_le (n := w.heap.size) (by omega) hbz; have hz1 := Nat.lt_of_lt_of_le (n := w.heap.size + 1) (by omega) hbz)
  | (go_at_call 47; refine (hA.out _).mono ?_; rintro e w2 ⟨rfl, rfl⟩))
 have hnx : Below w.heap.size w w1 := by exact Zlo
 have k0 : Blk w1 w.heap.size #[.slice a safe.length cap, .slice b writes.length bcap] 58 := ((Blk.new w _ _).alloc _).step hb1
 have k1 : Blk w1 (w.heap.size + 1) #[.slice none 0 0, .slice none 0 0] 58 := (Blk.newAt (w := w.alloc _) (by simp)).step hb1
 have c0 := k0.cell 0
 have c1 := k0.cell 1
 simp only [Zga, Zgb, Zgc] at c0 c1
 have hw1 := hid (hw.out.below hnx)
 clear hb1 hbc hbf hw hd2
 go_region_held3 (fun w' => w'.cell? ⟨w.heap.size, 0, none⟩ = some (.slice a safe.length cap) /\ w'.cell? ⟨w.heap.size, 1, none⟩ = some (.slice b writes.length bcap)) (first | exact ⟨by with_reducible assumption, by with_reducible assumption⟩ | go_keep) (first
  | (refine step_call 39 _ _ (by rfl) (by rfl) #[.slice b writes.length bcap] (by rfl) ⟨_, _, Tryz.func39, by kernel_rfl, rfl⟩ (hC.out _ _ (hw1.out.below (by exact Zlo))) ?_; rintro e w3 ⟨v3, rfl, hown3, hb3⟩; obtain ⟨a3, cap3, rfl⟩ := hown3.form; have hz3 : w1.heap.size <= w3.heap.size := (by have h := hb3.size; simp at h; omega); have k3 : Blk w3 (w.heap.size + 1) #[.slice none 0 0, .slice none 0 0] 58 := (by with_reducible (first | exact k1.drew.step hb3 | exact (k1.alloc _).drew.step hb3)); replace hown3 := hown3.mono (base' := w1.heap.size) (by simp); have hb13 : Below w.heap.size w w3 := (by with_reducible (first | exact hnx.drew.trans (hb3.mono (by simp; omega)) | exact (allocB hnx (by omega) _).drew.trans (hb3.mono (by simp; omega)))); have k03 : Blk w3 w.heap.size #[.slice a safe.length cap, .slice b writes.length bcap] 58 := (by with_reducible (first | exact k0.drew.step hb3 | exact (k0.alloc _).drew.step hb3)); have p0 := k03.cell 0; have p1 := k03.cell 1; simp only [Zga, Zgb, Zgc] at p0 p1; refine ⟨_, rfl, ?_⟩)
  | (refine step_app (by rfl) _ _ 56 (by rfl) w1.heap.size _ 2 24 wrC_flat elemWr (hown3.alloc _) (by rfl) [⟨n, t⟩] (RL.newN (f := wrC) _ _ _ [⟨n, t⟩] (by show 1 <= maxLen; decide)) (by rfl) (by (try simp); omega) (by (try simp); unfold maxLen; omega) (by (try simp); omega) ?_; intro v4 w4 hown4 hb4 _; obtain ⟨a4, cap4, rfl⟩ := hown4.form; have k4 := (k3.alloc _).below hb4 (by omega); have hb14 := (allocB hb13 (by omega) _).trans (hb4.mono (by omega)); have k04 := (k03.alloc _).below hb4 (by omega); have p2 := k04.cell 0; have p3 := k04.cell 1; simp only [Zga, Zgb, Zgc] at p2 p3; have f0 := k4.cell 0; have f1 := k4.cell 1; simp only [Zga, Zgb, Zgc] at f0 f1; have f2 := k4.free 0; have f3 := k4.free 1)
  | (refine step_app (by rfl) _ _ 56 (by rfl) w1.heap.size _ 2 24 wrC_flat elemWr hown3 (by rfl) [⟨n, t⟩] (RL.ofBlk (f := wrC) (g := w1.heap.size) [⟨n, t⟩] ((Blk.newAt (w := w1) (by simp)).drew.step hb3) (by show 1 <= maxLen; decide)) (by rfl) (by (try simp); omega) (by (try simp); unfold maxLen; omega) (by (try simp); omega) ?_; intro v4 w4 hown4 hb4 _; obtain ⟨a4, cap4, rfl⟩ := hown4.form; have k4 := k3.below hb4 (by omega); have hb14 := hb13.trans (hb4.mono (by omega)); have k04 := k03.below hb4 (by omega); have p2 := k04.cell 0; have p3 := k04.cell 1; simp only [Zga, Zgb, Zgc] at p2 p3; have f0 := k4.cell 0; have f1 := k4.cell 1; simp only [Zga, Zgb, Zgc] at f0 f1; have f2 := k4.free 0; have f3 := k4.free 1))
 all_goals
  go_wp2
  have e4 : (writes ++ [(⟨n, t⟩ : Wr)]).length = writes.length + 1 := by simp
  rw [e4] at hown4
  have l1 := k1.lt
  have hF : Below w.heap.size w ((w4.setCell ⟨w.heap.size + 1, 0, none⟩ (.slice a safe.length cap)).setCell ⟨w.heap.size + 1, 1, none⟩ (.slice a4 (writes.length + 1) cap4)) := (hb14.setCell (by simp) _).setCell (by simp) _
  refine bodyPost_ret (v := .tuple #[.agg #[.slice a safe.length cap, .slice a4 (writes.length + 1) cap4], .int .i64 0]) (by simp [results, Tryz.results36, go_sem, f0, f1]) rfl ⟨_, rfl, ⟨_, _, rfl, hs.out.below hF, ?_, n1, by simp; omega⟩, ⟨_, _, _, _, rfl, rfl, .same _ _ _ _ _, ?_⟩, hF⟩
  ·exact ((hown4.setCell (by simp; omega) _).setCell (by simp; omega) _).reads
  ·exact ((hown4.setCell (by simp; omega) _).setCell (by simp; omega) _).slot (by omega)
theorem disk_PutN (d : Dsk) (n : Int) (t : ByteArray) (v : Value) (w : World) (hd : RDisk w v d) :
    Calls Tryz.prog 36 #[v, .int .i64 n, .string t] w fun e w' => ∃ v', e = .returned (.tuple #[v', .int .i64 (putE d n t)]) /\ RDisk w' v' (putD d n t) /\ NewD w.heap.size w' v v' d (putD d n t) /\ Below w.heap.size w w' := by
 have hG := fun w (hh : RDisk w v d) => disk_Good d v w hh
 have hA := fun w => disk_at n w
 have hd2 := hd
 obtain ⟨vs, vw, rfl, hs, hw, n1, n2⟩ := hd
 obtain ⟨a, cap, rfl, _⟩ := hs.form
 obtain ⟨b, bcap, rfl, _⟩ := hw.form
 replace hd2 := hid hd2
 by_cases hg : goodD d = true
 ·rw [hg] at hG
  by_cases ha : isAt n = true
  ·have hg0 := hg
   have ha0 := ha
   rw [ha] at hA
   have hgood : goodD d = true /\ isAt n = true := ⟨hg, ha⟩
   by_cases h32 : t.size = 32
   ·have e1 : ((t.size : Int) != 32) = false := by rw [h32]; rfl
    by_cases h200 : 200 <= d.writes.length
    ·have he : putE d n t = 11 := by unfold putE; rw [if_neg (not_not_intro hgood), if_neg (not_not_intro h32), if_pos h200]
     have hv : putD d n t = d := by unfold putD; rw [he, if_neg (by decide)]
     rw [hv, he]
     clear ha hg hv he hs hw hgood h32
     replace hG := hid hG
     replace hA := hid hA
     go_enter Tryz.func36, Tryz.ntmps36
     go_wp2_with (first
      | (go_at_call 46; refine (hG.out _ (hd2.out.below (by exact Zlo))).mono ?_; rintro e w1 ⟨rfl, hb1⟩; obtain ⟨hbc, hbf⟩ := bcell hb1; have hbz := hb1.size; try simp only [World.size_alloc, World.size_setCell, World.size_drew] at hbz; have hz0 := Nat.lt_of_lt_of_le (n := w.heap.size) (by omega) hbz; have hz1 := Nat.lt_of_lt_of_le (n := w.heap.size + 1) (by omega) hbz)
      | (go_at_call 47; refine (hA.out _).mono ?_; rintro e w2 ⟨rfl, rfl⟩))
     exact bodyPost_ret (v := .tuple #[.agg #[.slice a d.safe.length cap, .slice b d.writes.length bcap], .int .i64 11]) (by simp [results, Tryz.results36, go_sem, hbc]) rfl ⟨_, rfl, hd2.out.below (by exact Zlo), hd2.out.same _, by exact Zlo⟩
    ·have he : putE d n t = 0 := by unfold putE; rw [if_neg (not_not_intro hgood), if_neg (not_not_intro h32), if_neg h200]
     have hv : putD d n t = ⟨d.safe, d.writes ++ [⟨n, t⟩]⟩ := by unfold putD; rw [if_pos he]
     rw [hv, he]
     clear ha hg hv he hgood
     exact disk_Put_good d n t _ w hd2.out hg0 ha0 h32 h200
   ·have e1 : ((t.size : Int) != 32) = true := bne_iff_ne.2 (by omega)
    have he : putE d n t = 1 := by unfold putE; rw [if_neg (not_not_intro hgood), if_pos h32]
    have hv : putD d n t = d := by unfold putD; rw [he, if_neg (by decide)]
    rw [hv, he]
    clear ha hg hv he hs hw hgood h32
    replace hG := hid hG
    replace hA := hid hA
    go_enter Tryz.func36, Tryz.ntmps36
    go_wp2_with (first
     | (go_at_call 46; refine (hG.out _ (hd2.out.below (by exact Zlo))).mono ?_; rintro e w1 ⟨rfl, hb1⟩; obtain ⟨hbc, hbf⟩ := bcell hb1; have hbz := hb1.size; try simp only [World.size_alloc, World.size_setCell, World.size_drew] at hbz; have hz0 := Nat.lt_of_lt_of_le (n := w.heap.size) (by omega) hbz; have hz1 := Nat.lt_of_lt_of_le (n := w.heap.size + 1) (by omega) hbz)
     | (go_at_call 47; refine (hA.out _).mono ?_; rintro e w2 ⟨rfl, rfl⟩))
    exact bodyPost_ret (v := .tuple #[.agg #[.slice a d.safe.length cap, .slice b d.writes.length bcap], .int .i64 1]) (by simp [results, Tryz.results36, go_sem, hbc]) rfl ⟨_, rfl, hd2.out.below (by exact Zlo), hd2.out.same _, by exact Zlo⟩
  ·have he : putE d n t = 2 := by unfold putE; rw [if_pos (fun hh => ha hh.2)]
   have hv : putD d n t = d := by unfold putD; rw [he, if_neg (by decide)]
   rw [hv, he]
   rw [Bool.not_eq_true _ |>.mp ha] at hA
   clear ha hg hv he
   replace hG := hid hG
   replace hA := hid hA
   replace hs := hid hs
   replace hw := hid hw
   go_enter Tryz.func36, Tryz.ntmps36
   go_wp2_with (first
    | (go_at_call 46; refine (hG.out _ (hd2.out.below (by exact Zlo))).mono ?_; rintro e w1 ⟨rfl, hb1⟩; obtain ⟨hbc, hbf⟩ := bcell hb1; have hbz := hb1.size; try simp only [World.size_alloc, World.size_setCell, World.size_drew] at hbz; have hz0 := Nat.lt_of_lt_of_le (n := w.heap.size) (by omega) hbz; have hz1 := Nat.lt_of_lt_of_le (n := w.heap.size + 1) (by omega) hbz)
    | (go_at_call 47; refine (hA.out _).mono ?_; rintro e w2 ⟨rfl, rfl⟩))
   exact bodyPost_ret (v := .tuple #[.agg #[.slice a d.safe.length cap, .slice b d.writes.length bcap], .int .i64 2]) (by simp [results, Tryz.results36, go_sem, hbc]) rfl ⟨_, rfl, hd2.out.below (by exact Zlo), hd2.out.same _, by exact Zlo⟩
 ·have he : putE d n t = 2 := by unfold putE; rw [if_pos (fun hh => hg hh.1)]
  have hv : putD d n t = d := by unfold putD; rw [he, if_neg (by decide)]
  rw [hv, he]
  rw [Bool.not_eq_true _ |>.mp hg] at hG
  clear hg hv he hs hw
  replace hG := hid hG
  go_enter Tryz.func36, Tryz.ntmps36
  go_wp2_with (go_at_call 46; refine (hG.out _ (hd2.out.below (by exact Zlo))).mono ?_; rintro e w1 ⟨rfl, hb1⟩; obtain ⟨hbc, hbf⟩ := bcell hb1; have hbz := hb1.size; try simp only [World.size_alloc, World.size_setCell, World.size_drew] at hbz; have hz0 := Nat.lt_of_lt_of_le (n := w.heap.size) (by omega) hbz; have hz1 := Nat.lt_of_lt_of_le (n := w.heap.size + 1) (by omega) hbz)
  exact bodyPost_ret (v := .tuple #[.agg #[.slice a d.safe.length cap, .slice b d.writes.length bcap], .int .i64 2]) (by simp [results, Tryz.results36, go_sem, hbc]) rfl ⟨_, rfl, hd2.out.below (by exact Zlo), hd2.out.same _, by exact Zlo⟩
theorem disk_FlushN (d : Dsk) (v : Value) (w : World) (hd : RDisk w v d) :
    Calls Tryz.prog 37 #[v] w fun e w' => ∃ v', e = .returned (.tuple #[v', .int .i64 (flushE d)]) /\ RDisk w' v' (flushD d) /\ NewD w.heap.size w' v v' d (flushD d) /\ Below w.heap.size w w' := by
 have hG := fun w (hh : RDisk w v d) => disk_Good d v w hh
 have hd2 := hd
 obtain ⟨vs, vw, rfl, hs, hw, n1, n2⟩ := hd
 obtain ⟨a, cap, rfl, ca1, ca2⟩ := hs.form
 obtain ⟨b, bcap, rfl, cb1, cb2⟩ := hw.form
 replace hd2 := hid hd2
 by_cases hg : goodD d = true
 ·have he : flushE d = 0 := by unfold flushE; rw [if_pos hg]
  have hv : flushD d = ⟨flushL d.safe d.writes, []⟩ := by unfold flushD; rw [if_pos hg]
  rw [hv, he]
  rw [hg] at hG
  obtain ⟨g1, g2, _, g3⟩ := (goodD_iff d).1 hg
  clear he hv hg
  obtain ⟨safe, writes⟩ := d
  dsimp only at *
  have hC := fun v w (hh : RL strC w v safe) => clone_Strings safe v w hh n1
  have hstep := fun (k : Nat) (hk : k < writes.length) => flushL_step safe writes hk
  have hlen := fun k => flushL_len safe (writes.take k)
  have hwr := fun (k : Nat) (hk : k < writes.length) => List.all_eq_true.1 g3 writes[k] (List.getElem_mem hk)
  replace hG := hid hG
  replace hC := hid hC
  replace hs := hid hs
  replace hw := hid hw
  replace hstep := hid hstep
  replace hlen := hid hlen
  replace hwr := hid hwr
  replace g1 := hid g1
  clear g3
  go_enter Tryz.func37, Tryz.ntmps37
  go_wp2_with (first
   | (go_at_call 46; refine (hG.out _ (hd2.out.below (by exact Zlo))).mono ?_; rintro e w1 ⟨rfl, hb1⟩; obtain ⟨hbc, hbf⟩ := bcell hb1; have hbz := hb1.size; try simp only [World.size_alloc, World.size_setCell, World.size_drew] at hbz; have hz0 := Nat.lt_of_lt_of_le (n := w.heap.size) (by omega) hbz; have hz1 := Nat.lt_of_lt_of_le (n := w.heap.size + 1) (by omega) hbz)
   | (go_at_call 38; (refine (hC.out _ _ (hs.out.below (by exact Zlo))).mono ?_; rintro e w3 ⟨v3, rfl, hown3, hb3⟩; obtain ⟨a3, cap3, rfl⟩ := hown3.form; have k0 : Blk w3 w.heap.size #[.slice a safe.length cap, .slice b writes.length bcap] 58 := (((Blk.new w _ _).alloc _).step hb1).step hb3; have k1 : Blk w3 (w.heap.size + 1) #[.slice none 0 0, .slice none 0 0] 58 := ((Blk.newAt (w := w.alloc _) (by simp)).step hb1).step hb3; have hnx3 : Below w.heap.size w w3 := (by exact Zlo); have lt1 := k1.lt; have lt0 := k0.lt; have c0 := k0.cell 0; have c1 := k0.cell 1; simp only [Zga, Zgb, Zgc] at c0 c1; have og := fun g (hg : (Value.slice a3 safe.length cap3).ownBlock = some g) => World.ownsRow.lt hown3 g hg; replace og := hid og; have lz := hb1.size; clear hb1 hb3 hbc hbf)))
  have hz1w : w.heap.size + 1 < w1.heap.size := by (try simp at lz); omega
  have o0 := hown3
  go_loopw [6, 18] (fun _ i wr => ∃ k : Nat, k <= writes.length /\ i = .int .i64 k /\ Wb.Own strC w1.heap.size 9 1 wr (.slice a3 safe.length cap3) (flushL safe (writes.take k)) /\ Blk wr w.heap.size #[.slice a safe.length cap, .slice b writes.length bcap] 58 /\ Blk wr (w.heap.size + 1) #[.slice none 0 0, .slice none 0 0] 58 /\ Blk wr w3.heap.size #[.slice a3 safe.length cap3, .slice none 0 0] 58 /\ Below w.heap.size w wr) (fun _ i _ => writes.length - (intOf i).toNat)
  case atStart => exact ⟨0, Nat.zero_le _, rfl, o0.alloc _, k0.alloc _, k1.alloc _, Blk.new _ _ _, allocB hnx3 (by omega) _⟩
  case round =>
   obtain ⟨k, hk, rfl, hown, k0, k1, k2, hnx⟩ := hrel
   have lt0 := k0.lt
   have lt1 := k1.lt
   have lt2 := k2.lt
   have c0 := k0.cell 0
   have c1 := k0.cell 1
   have c2 := k1.cell 0
   have c3 := k1.cell 1
   have c4 := k2.cell 0
   have c5 := k2.cell 1
   simp only [Zga, Zgb, Zgc] at c0 c1 c2 c3 c4 c5
   by_cases hlt : k < writes.length
   ·obtain ⟨b2, off, rfl, d0, d1⟩ := RL.at2 (fun x => .int .i64 x.at_) (fun x => .string x.text) (fun _ => rfl) (hw.out.below hnx) hlt
    have lt3 := World.block_lt_of_cell? _ _ d0
    dsimp only at lt3
    have hst := hstep.out k hlt
    have hwk := hwr.out k hlt
    have hl := hlen.out k
    obtain ⟨⟨p, t⟩, hx⟩ : ∃ x, writes[k] = x := ⟨_, rfl⟩
    rw [hx] at d0 d1 hst hwk
    obtain ⟨m, rfl⟩ : ∃ m : Nat, p = m := ⟨p.toNat, by simp only [wrOk, Bool.and_eq_true, isAt, decide_eq_true_eq] at hwk; omega⟩
    have hm : m < safe.length := by simp only [wrOk, Bool.and_eq_true, isAt, decide_eq_true_eq] at hwk; have := g1.out; omega
    dsimp only at d0 d1
    simp only [Int.toNat_natCast] at hst
    generalize flushL safe (writes.take k) = fl at *
    obtain ⟨g, cap4, hv, hgb, hgl, hgc, hset⟩ := hown.poke strC_flat (k := m) (by omega)
    simp only [Value.slice.injEq] at hv
    obtain ⟨rfl, _, rfl⟩ := hv
    obtain ⟨z0, z1⟩ := hgc 0 (by decide)
    replace hset := hset 0 t (.string t) (by decide) rfl
    rw [<- hst, Nat.mul_one, Nat.add_zero] at hset
    simp only [Nat.mul_one, Nat.add_zero, strC, List.getElem?_cons_zero] at z0 z1
    replace hset := hid hset
    have hne := og.out g rfl
    have hm3 : m < fl.length := by omega
    obtain ⟨old, hold⟩ : ∃ y, fl[m] = y := ⟨_, rfl⟩
    rw [hold] at z1
    clear hold hwk hst hx hown hgc hl hm3
    have hm2 : (m : Int) < safe.length := by omega
    go_wp2
    go_roundw
    case rel => exact ⟨k + 1, by omega, by go_num, hset.out.alloc _, (k0.set_other _ _ (by simp; omega)).alloc _, (k1.set_other _ _ (by simp; omega)).alloc _, (k2.set_other _ _ (by simp; omega)).alloc _, allocB (hnx.setCell (by simp; omega) _) (by omega) _⟩
    case measure => simp [intOf]; omega
   ·rw [List.take_of_length_le (by omega)] at hown
    have f1 := k1.free 0
    have f2 := k1.free 1
    go_wp2
    have hF : Below w.heap.size w ((wr.setCell ⟨w.heap.size + 1, 0, none⟩ (.slice a3 safe.length cap3)).setCell ⟨w.heap.size + 1, 1, none⟩ (.slice none 0 0)) := (hnx.setCell (by simp) _).setCell (by simp) _
    have hfl := flushL_len safe writes
    obtain ⟨a9, cap9, hv9, _, _⟩ := hown.reads.form
    have ho := (hown.setCell (p := ⟨w.heap.size + 1, 0, none⟩) (by simp; omega) (.slice a3 safe.length cap3)).setCell (p := ⟨w.heap.size + 1, 1, none⟩) (by simp; omega) (.slice none 0 0)
    refine bodyPost_ret (v := .tuple #[.agg #[.slice a3 safe.length cap3, .slice none 0 0], .int .i64 0]) (by simp [results, Tryz.results37, go_sem, c2, c3]) rfl ⟨_, rfl, ⟨_, _, rfl, ho.reads, RL.nil _ _, by rw [hfl]; exact n1, by simp⟩, ⟨_, _, _, _, rfl, rfl, ho.slot (by omega), .nil⟩, hF⟩
 ·have he : flushE d = 2 := by unfold flushE; rw [if_neg hg]
  have hv : flushD d = d := by unfold flushD; rw [if_neg hg]
  rw [hv, he]
  rw [Bool.not_eq_true _ |>.mp hg] at hG
  clear hg hv he hs hw
  replace hG := hid hG
  go_enter Tryz.func37, Tryz.ntmps37
  go_wp2_with (go_at_call 46; refine (hG.out _ (hd2.out.below (by exact Zlo))).mono ?_; rintro e w1 ⟨rfl, hb1⟩; obtain ⟨hbc, hbf⟩ := bcell hb1; have hbz := hb1.size; try simp only [World.size_alloc, World.size_setCell, World.size_drew] at hbz; have hz0 := Nat.lt_of_lt_of_le (n := w.heap.size) (by omega) hbz; have hz1 := Nat.lt_of_lt_of_le (n := w.heap.size + 1) (by omega) hbz)
  exact bodyPost_ret (v := .tuple #[.agg #[.slice a d.safe.length cap, .slice b d.writes.length bcap], .int .i64 2]) (by simp [results, Tryz.results37, go_sem, hbc]) rfl ⟨_, rfl, hd2.out.below (by exact Zlo), hd2.out.same _, by exact Zlo⟩
theorem disk_New (w : World) :
    Calls Tryz.prog 34 #[] w fun e w' => ∃ vs, e = .returned (.agg #[vs, .slice none 0 0]) /\ Wb.Own strC (w.heap.size + 2) 9 1 w' vs (List.replicate 37 (fit ⟨#[]⟩)) /\ Below w.heap.size w w' := by
 have hFit := fun w => disk_Fit ⟨#[]⟩ w (by decide)
 have hrep := fun k => (List.replicate_succ' (n := k) (a := fit ⟨#[]⟩))
 generalize fit ⟨#[]⟩ = z at *
 replace hFit := hid hFit
 replace hrep := hid hrep
 go_enter Tryz.func34, Tryz.ntmps34
 go_wp2
 go_loopw [2] (fun i wr => ∃ k : Nat, k <= 37 /\ i = .int .i64 k /\ ∃ vo, Wb.Own strC (w.heap.size + 2) 9 1 wr vo (List.replicate k z) /\ Blk wr w.heap.size #[.slice none 0 0, .slice none 0 0] 58 /\ Blk wr (w.heap.size + 1) #[vo, .slice none 0 0] 58 /\ Below w.heap.size w wr) (fun i _ => 37 - (intOf i).toNat)
 case atStart => exact ⟨0, by decide, rfl, _, Own.nil _ _ _ _ _, (Blk.new w _ _).alloc _, Blk.newAt (by simp), by exact Zlo⟩
 case round =>
  obtain ⟨k, hk, rfl, vo, hown, k0, k1, hnx⟩ := hrel
  obtain ⟨ao, capo, rfl⟩ := hown.form
  have lt0 := k0.lt
  have lt1 := k1.lt
  have c0 := k0.cell 0
  have c1 := k0.cell 1
  have c2 := k1.cell 0
  have c3 := k1.cell 1
  simp only [Zga, Zgb, Zgc] at c0 c1 c2 c3
  have hkl : (List.replicate k z).length = k := List.length_replicate
  rw [hkl] at hown k1 c2
  clear hkl
  by_cases hlt : k < 37
  ·have hr := hid (hrep.out k)
   have hlen : (List.replicate k z).length = k := List.length_replicate
   generalize List.replicate k z = Mk at *
   go_wp2
   go_region_law (first
    | (refine step_call 11 _ _ (by rfl) (by rfl) #[.string ⟨#[]⟩] (by rfl) ⟨_, _, Tryz.func11, by kernel_rfl, rfl⟩ (hFit.out _) ?_; rintro e w3 ⟨rfl, hb3⟩; refine ⟨_, rfl, ?_⟩; have k0' := k0.drew.step hb3; have k1' := k1.drew.step hb3; have c2' := k1'.cell 0; simp only [Zga, Zgb, Zgc] at c2'; have hown3 := hown.drew.below hb3; have hnx3 := hnx.drew.trans (hb3.mono (by simp; omega)); have lt1' := k1'.lt)
    | (refine step_push (by rfl) _ _ 55 (by rfl) (w.heap.size + 2) _ 1 16 strC_flat elemStr (hown3.alloc _) (by rfl) z w3.heap.size (Blk.newAt (w := w3) rfl) (by rfl) (by rfl) k hlen (by omega) (by omega) (by (try simp); omega) ?_; intro a4 cap4 w4 hown4 hb4 _; have k4 := (k1'.alloc _).below hb4 (by omega); have f5 := k4.cell 0; simp only [Zga, Zgb, Zgc] at f5; have f6 := k4.free 0))
   all_goals
    go_wp2
    go_roundw
    case rel => exact ⟨k + 1, by omega, by go_num, _, by rw [hr.out]; exact hown4.setCell (p := ⟨w.heap.size + 1, 0, none⟩) (by simp) _, ((k0'.alloc _).below hb4 (by omega)).set_other _ _ (by simp), k4.set 0 _, ((allocB hnx3 (by omega) _).trans (hb4.mono (by omega))).setCell (by simp) _⟩
    case measure => simp [intOf]; omega
  ·obtain rfl : k = 37 := by omega
   have f1 := k0.free 0
   have f2 := k0.free 1
   go_wp2
   have hF : Below w.heap.size w ((wr.setCell ⟨w.heap.size, 0, none⟩ (.slice ao 37 capo)).setCell ⟨w.heap.size, 1, none⟩ (.slice none 0 0)) := (hnx.setCell (by simp) _).setCell (by simp) _
   have ho := (hown.setCell (p := ⟨w.heap.size, 0, none⟩) (by simp) (.slice ao 37 capo)).setCell (p := ⟨w.heap.size, 1, none⟩) (by simp) (.slice none 0 0)
   exact bodyPost_ret (v := .agg #[.slice ao 37 capo, .slice none 0 0]) (by simp [results, Tryz.results34, go_sem, c0, c1]) rfl ⟨_, rfl, ho, hF⟩
theorem disk_Crash_bad (d : Dsk) (draw : Int) (v : Value) (w : World) (hd : RDisk w v d) (h : ¬ (goodD d = true /\ 0 <= draw)) :
    Calls Tryz.prog 48 #[v, .int .i64 draw] w fun e w' => ∃ v', e = .returned (.tuple #[v', .int .i64 (crashE d draw)]) /\ RDisk w' v' (crashD d draw) /\ NewD w.heap.size w' v v' d (crashD d draw) /\ Below w.heap.size w w' := by
 have hG := fun w (hh : RDisk w v d) => disk_Good d v w hh
 have hd2 := hd
 obtain ⟨vs, vw, rfl, hs, hw, n1, n2⟩ := hd
 obtain ⟨a, cap, rfl, ca1, ca2⟩ := hs.form
 obtain ⟨b, bcap, rfl, cb1, cb2⟩ := hw.form
 have he : crashE d draw = 2 := by unfold crashE; rw [if_neg h]
 have hv : crashD d draw = d := by unfold crashD; rw [if_neg h]
 rw [hv, he]
 clear he hv hs hw
 replace hd2 := hid hd2
 by_cases hg : goodD d = true
 ·have hneg : draw < 0 := Int.not_le.1 (fun hh => h ⟨hg, hh⟩)
  rw [hg] at hG
  clear hg h
  replace hG := hid hG
  go_enter Tryz.func48, Tryz.ntmps48
  go_wp2_with (go_at_call 46; refine (hG.out _ (hd2.out.below (by exact Zlo))).mono ?_; rintro e w1 ⟨rfl, hb1⟩; obtain ⟨hbc, hbf⟩ := bcell hb1; have hbz := hb1.size; try simp only [World.size_alloc, World.size_setCell, World.size_drew] at hbz; have hz0 := Nat.lt_of_lt_of_le (n := w.heap.size) (by omega) hbz; have hz1 := Nat.lt_of_lt_of_le (n := w.heap.size + 1) (by omega) hbz)
  exact bodyPost_ret (v := .tuple #[.agg #[.slice a d.safe.length cap, .slice b d.writes.length bcap], .int .i64 2]) (by simp [results, Tryz.results48, go_sem, hbc]) rfl ⟨_, rfl, hd2.out.below (by exact Zlo), hd2.out.same _, by exact Zlo⟩
 ·rw [Bool.not_eq_true _ |>.mp hg] at hG
  clear hg h
  replace hG := hid hG
  go_enter Tryz.func48, Tryz.ntmps48
  go_wp2_with (go_at_call 46; refine (hG.out _ (hd2.out.below (by exact Zlo))).mono ?_; rintro e w1 ⟨rfl, hb1⟩; obtain ⟨hbc, hbf⟩ := bcell hb1; have hbz := hb1.size; try simp only [World.size_alloc, World.size_setCell, World.size_drew] at hbz; have hz0 := Nat.lt_of_lt_of_le (n := w.heap.size) (by omega) hbz; have hz1 := Nat.lt_of_lt_of_le (n := w.heap.size + 1) (by omega) hbz)
  exact bodyPost_ret (v := .tuple #[.agg #[.slice a d.safe.length cap, .slice b d.writes.length bcap], .int .i64 2]) (by simp [results, Tryz.results48, go_sem, hbc]) rfl ⟨_, rfl, hd2.out.below (by exact Zlo), hd2.out.same _, by exact Zlo⟩
theorem disk_Crash_good (d : Dsk) (x : Nat) (v : Value) (w : World) (hd : RDisk w v d) (hg : goodD d = true) (hx : x <= 9223372036854775807) :
    Calls Tryz.prog 48 #[v, .int .i64 (x : Int)] w fun e w' => ∃ v', e = .returned (.tuple #[v', .int .i64 0]) /\ RDisk w' v' ⟨crashL d x d.safe.length, []⟩ /\ NewD w.heap.size w' v v' d ⟨crashL d x d.safe.length, []⟩ /\ Below w.heap.size w w' := by
 have hG := fun w (hh : RDisk w v d) => disk_Good d v w hh
 have hd2 := hd
 obtain ⟨vs, vw, rfl, hs, hw, n1, n2⟩ := hd
 obtain ⟨a, cap, rfl, ca1, ca2⟩ := hs.form
 obtain ⟨b, bcap, rfl, cb1, cb2⟩ := hw.form
 rw [hg] at hG
 obtain ⟨g1, g2, _, _⟩ := (goodD_iff d).1 hg
 clear hg
 have hC := fun v w (hh : RL strC w v d.safe) => clone_Strings d.safe v w hh n1
 have hset := fun (k : Nat) (hk : k < d.safe.length) => mixL_set d x hk
 have hlen := fun (k : Nat) (hk : k <= d.safe.length) => mixL_len d x hk
 have hget := fun (k : Nat) => crashAt_get d x k (Nat.mod_lt _ (textsAt_pos d k))
 have hpos := fun (k : Nat) => textsAt_pos d k
 have hle := fun (k : Nat) => textsAt_le d k
 have hdr := fun (k : Nat) => drawAt_le d x k
 have hds := fun (k : Nat) => drawAt_succ d x k
 have htx := fun (k : Nat) (hk : k < d.safe.length) => textsAt_eq d hk
 have hhit := fun (n k : Nat) (hn : n < d.safe.length) (hk : k < d.writes.length) => afterL_hit d.safe[n] n hk
 have hmiss := fun (n k : Nat) (hn : n < d.safe.length) (hk : k < d.writes.length) => afterL_miss d.safe[n] n hk
 have hal := fun (n k : Nat) (hn : n < d.safe.length) => afterL_len d.safe[n] n (d.writes.take k)
 have hm0 := mixL_zero d x
 have hmf := mixL_full d x
 have hcl := crashL_len d x d.safe.length
 replace hd2 := hid hd2; replace hG := hid hG; replace hC := hid hC; replace hs := hid hs; replace hw := hid hw; replace hset := hid hset; replace hlen := hid hlen
 replace hget := hid hget; replace hpos := hid hpos; replace hle := hid hle; replace hdr := hid hdr; replace hds := hid hds; replace htx := hid htx; replace hhit := hid hhit; replace hmiss := hid hmiss; replace hal := hid hal
 replace hm0 := hid hm0; replace hmf := hid hmf; replace hcl := hid hcl; replace g1 := hid g1
 go_enter Tryz.func48, Tryz.ntmps48
 go_wp2_with (first
  | (go_at_call 46; refine (hG.out _ (hd2.out.below (by exact Zlo))).mono ?_; rintro e w1 ⟨rfl, hb1⟩; obtain ⟨hbc, hbf⟩ := bcell hb1; have hbz := hb1.size; try simp only [World.size_alloc, World.size_setCell, World.size_drew] at hbz; have hz0 := Nat.lt_of_lt_of_le (n := w.heap.size) (by omega) hbz; have hz1 := Nat.lt_of_lt_of_le (n := w.heap.size + 1) (by omega) hbz)
  | (go_at_call 38; (refine (hC.out _ _ (hs.out.below (by exact Zlo))).mono ?_; rintro e w3 ⟨v3, rfl, hown3, hb3⟩; obtain ⟨a3, cap3, rfl⟩ := hown3.form; have k0 : Blk w3 w.heap.size #[.slice a d.safe.length cap, .slice b d.writes.length bcap] 58 := (((Blk.new w _ _).alloc _).step hb1).step hb3; have k1 : Blk w3 (w.heap.size + 1) #[.slice none 0 0, .slice none 0 0] 58 := ((Blk.newAt (w := w.alloc _) (by simp)).step hb1).step hb3; have hnx3 : Below w.heap.size w w3 := (by exact Zlo); have lt1 := k1.lt; have lt0 := k0.lt; have c0 := k0.cell 0; have c1 := k0.cell 1; simp only [Zga, Zgb, Zgc] at c0 c1; have og := fun g (hh : Value.ownBlock (.slice a3 d.safe.length cap3) = some g) => World.ownsRow.lt hown3 g hh; replace og := hid og; have lz := hb1.size; clear hbc hbf hbz hb1 hb3)))
 have hz1w : w.heap.size + 1 < w1.heap.size := by (try simp at lz); omega
 have o0 := hown3
 rw [<- hm0.out] at o0
 go_loopw [1, 26] (fun s1 i wr => ∃ k : Nat, k <= d.safe.length /\ i = .int .i64 k /\ s1 = .int .i64 (drawAt d x k : Nat) /\ Wb.Own strC w1.heap.size 9 1 wr (.slice a3 d.safe.length cap3) (mixL d x k) /\ Blk wr w.heap.size #[.slice a d.safe.length cap, .slice b d.writes.length bcap] 58 /\ Blk wr (w.heap.size + 1) #[.slice none 0 0, .slice none 0 0] 58 /\ Blk wr w3.heap.size #[.slice a3 d.safe.length cap3, .slice none 0 0] 58 /\ Below w.heap.size w wr) (fun _ i _ => d.safe.length - (intOf i).toNat)
 case atStart => exact ⟨0, Nat.zero_le _, rfl, rfl, o0.alloc _, k0.alloc _, k1.alloc _, Blk.new _ _ _, allocB hnx3 (by omega) _⟩
 case round =>
  clear k0 k1 hnx3 lt0 lt1 c0 c1 o0 hown3
  obtain ⟨wo, rfl⟩ : ∃ wo : World, wo = wr := ⟨_, rfl⟩
  obtain ⟨k, hk, rfl, rfl, hown, k0, k1, k2, hnx⟩ := hrel
  have lt0 := k0.lt
  have lt1 := k1.lt
  have lt2 := k2.lt
  have c0 := k0.cell 0
  have c1 := k0.cell 1
  have c2 := k1.cell 0
  have c3 := k1.cell 1
  have c4 := k2.cell 0
  have c5 := k2.cell 1
  simp only [Zga, Zgb, Zgc] at c0 c1 c2 c3 c4 c5
  by_cases hlt : k < d.safe.length
  ·obtain ⟨b2, off, rfl, d0⟩ := RL.at1 (fun x => .string x) (fun _ => rfl) (hs.out.below hnx) hlt
   have ld := World.block_lt_of_cell? _ _ d0
   dsimp only at ld
   have hset := hset.out k hlt
   have hget := hget.out k
   have hpos := hpos.out k
   have hle := hle.out k
   have hdr := hdr.out k
   have hds := hds.out k
   have htx := htx.out k hlt
   have hhit := fun j hj => hhit.out k j hlt hj
   have hmiss := fun j hj => hmiss.out k j hlt hj
   have hal := fun j => hal.out k j hlt
   have hml := hlen.out k (by omega)
   generalize mixL d x k = M at *
   replace hset := hid hset; replace hget := hid hget; replace hds := hid hds; replace htx := hid htx; replace hhit := hid hhit; replace hmiss := hid hmiss; replace hal := hid hal; replace hml := hid hml; replace hpos := hid hpos; replace hle := hid hle
   obtain ⟨sk, hsk⟩ : ∃ sk, sk = d.safe[k] := ⟨_, rfl⟩
   rw [<- hsk] at d0 htx hhit hmiss hal
   clear hsk
   generalize drawAt d x k = y at *
   go_wp2
   have kl : Blk (wo.alloc (.cells #[.string sk] 9)) wo.heap.size #[.string sk] 9 := Blk.new wo _ _
   go_loopw [8, 10, 38] (fun l _ i wi => ∃ j : Nat, j <= d.writes.length /\ i = .int .i64 j /\ Wb.Own strC wo.heap.size 9 1 wi l (afterL sk k (d.writes.take j)) /\ Below wo.heap.size wo wi /\ wo.heap.size < wi.heap.size) (fun _ _ i _ => d.writes.length - (intOf i).toNat)
   case atStart =>
    refine ⟨0, Nat.zero_le _, rfl, ?_, bal (b0 wo) _, by simp⟩
    rw [List.take_zero, afterL_nil]
    exact Own.lit (f := strC) strC_flat wo.heap.size 9 wo [sk] (by simp) (by show 1 <= maxLen; decide) rfl (by simp) rfl
   case round =>
    obtain ⟨j, hj, rfl, hl, hbi, hzi⟩ := hrel
    by_cases hlt2 : j < d.writes.length
    ·obtain ⟨b3, off3, rfl, d1, d2⟩ := RL.at2 (fun x => .int .i64 x.at_) (fun x => .string x.text) (fun _ => rfl) ((hw.out.below hnx).below hbi) hlt2
     have ld3 := World.block_lt_of_cell? _ _ d1
     dsimp only at ld3
     by_cases heq : d.writes[j].at_ = k
     ·have hh := hhit.out j hlt2 heq
      have hq := hal.out j
      rw [List.length_take] at hq
      have e1 : (d.writes[j].at_ == (k : Int)) = true := beq_iff_eq.2 heq
      replace hh := hid hh
      clear heq
      generalize d.writes[j] = xw at *
      generalize afterL sk k (d.writes.take j) = ls at *
      have hqq : ls.length <= 201 := by omega
      clear hq
      go_wp2_with (at_builtin; (refine wpList_push rfl _ _ _ rfl wo.heap.size _ 1 16 strC_flat elemStr (hl.alloc _) rfl xw.text rfl rfl ?c1 ?c2 ?c3 ?c4))
      all_goals try (case c1 => omega)
      all_goals try (case c2 => unfold maxLen; omega)
      all_goals try (case c3 => simp; omega)
      case c4 =>
       intro v7 w7 hown7 hbel7 _
       rw [<- hh.out] at hown7
       have hz7 := hbel7.size
       go_wp2
       go_roundw
       case rel => exact ⟨j + 1, by omega, by go_num, hown7, (allocB hbi (by omega) _).trans (hbel7.mono (by omega)), by simp at hz7; omega⟩
       case measure => simp [intOf]; omega
     ·have hh := hmiss.out j hlt2 heq
      have e1 : (d.writes[j].at_ == (k : Int)) = false := beq_eq_false_iff_ne.2 heq
      replace hh := hid hh
      clear heq
      generalize d.writes[j] = xw at *
      go_wp2
      go_roundw
      case rel => exact ⟨j + 1, by omega, by go_num, by rw [hh.out]; exact hl.alloc _, allocB hbi (by omega) _, by simp; omega⟩
      case measure => simp [intOf]; omega
    ·rw [List.take_of_length_le (by omega), <- htx.out] at hl
     obtain ⟨al, capl, rfl⟩ := hl.form
     have k0 := k0.step hbi
     have k1 := k1.step hbi
     have k2 := k2.step hbi
     have hown := hown.below hbi
     have hnx := hnx.trans (hbi.mono (by omega))
     clear c0 c1 c2 c3 c4 c5 lt0 lt1 lt2 d0 ld kl
     have lt2 := k2.lt
     have c4 := k2.cell 0
     simp only [Zga, Zgb, Zgc] at c4
     replace hpos := hpos.out
     replace hle := hle.out
     replace hget := hget.out
     replace hds := hds.out
     have hmx := Nat.mod_lt y hpos
     have hmi : ((y : Int) % ((textsAt d k).length : Int)) = ((y % (textsAt d k).length : Nat) : Int) := rfl
     have hmt : ((y : Int).tmod ((textsAt d k).length : Int)) = ((y % (textsAt d k).length : Nat) : Int) := rfl
     have hdi : ((y : Int) / ((textsAt d k).length : Int)) = ((y / (textsAt d k).length : Nat) : Int) := rfl
     have hdt : ((y : Int).tdiv ((textsAt d k).length : Int)) = ((y / (textsAt d k).length : Nat) : Int) := rfl
     rw [<- hds] at hdi hdt
     generalize hye : drawAt d x (k + 1) = y2 at *
     replace hye := hid hye
     obtain ⟨bl, offl, rfl, z0⟩ := RL.at1 (fun x => .string x) (fun _ => rfl) hl.reads hmx
     rw [hget] at z0
     clear hget
     replace hds := hid hds
     generalize y % (textsAt d k).length = q at *
     generalize crashAt d x k = t at *
     generalize textsAt d k = ls at *
     have hne0 : ((ls.length : Int) == 0) = false := beq_eq_false_iff_ne.2 (by omega)
     have hm := hml.out
     obtain ⟨g, cap4, hv, hgb, hgl, hgc, hpk⟩ := hown.poke strC_flat (k := k) (by omega)
     simp only [Value.slice.injEq] at hv
     obtain ⟨rfl, _, rfl⟩ := hv
     obtain ⟨z2, z3⟩ := hgc 0 (by decide)
     replace hpk := hpk 0 t (.string t) (by decide) rfl
     rw [hset.out, Nat.mul_one, Nat.add_zero] at hpk
     simp only [Nat.mul_one, Nat.add_zero, strC, List.getElem?_cons_zero] at z2 z3
     replace hpk := hid hpk
     have hne := og.out g rfl
     have hm3 : k < M.length := by omega
     obtain ⟨old, hold⟩ : ∃ o, M[k] = o := ⟨_, rfl⟩
     rw [hold] at z3
     clear hold hm hown hgc hm3
     have hq2 : (q : Int) < (ls.length : Int) := by omega
     have hk2 : (k : Int) < (d.safe.length : Int) := by omega
     have lz0 := World.block_lt_of_cell? _ _ z0
     dsimp only at lz0
     have hy0 : (y : Int) <= 9223372036854775807 := by omega
     have hys : y2 <= y := by rw [hds.out]; exact Nat.div_le_self _ _
     have hy2 : IntKind.i64.wrap (y2 : Int) = y2 := IntWalk.i64_in _ (by omega)
     go_wp2
     go_region
     all_goals
      go_wp2
      go_roundw
      case rel => exact ⟨k + 1, by omega, by go_num, by rw [hye.out], hpk.out, k0.drew.set_other _ _ (by simp; omega), k1.drew.set_other _ _ (by simp; omega), k2.drew.set_other _ _ (by simp; omega), hnx.drew.setCell (by simp; omega) _⟩
      case measure => simp [intOf]; omega
  ·obtain rfl : k = d.safe.length := by omega
   rw [hmf.out] at hown
   have f1 := k1.free 0
   have f2 := k1.free 1
   have hcl2 := hcl.out
   go_wp2
   have hF : Below w.heap.size w ((wo.setCell ⟨w.heap.size + 1, 0, none⟩ (.slice a3 d.safe.length cap3)).setCell ⟨w.heap.size + 1, 1, none⟩ (.slice none 0 0)) := (hnx.setCell (by simp) _).setCell (by simp) _
   have ho := (hown.setCell (p := ⟨w.heap.size + 1, 0, none⟩) (by simp; omega) (.slice a3 d.safe.length cap3)).setCell (p := ⟨w.heap.size + 1, 1, none⟩) (by simp; omega) (.slice none 0 0)
   refine bodyPost_ret (v := .tuple #[.agg #[.slice a3 d.safe.length cap3, .slice none 0 0], .int .i64 0]) (by simp [results, Tryz.results48, go_sem, c2, c3]) rfl ⟨_, rfl, ⟨_, _, rfl, ho.reads, RL.nil _ _, by rw [hcl.out]; exact n1, by simp⟩, ⟨_, _, _, _, rfl, rfl, ho.slot (by omega), .nil⟩, hF⟩
theorem disk_CrashN (d : Dsk) (draw : Int) (v : Value) (w : World) (hd : RDisk w v d) (hx : draw <= 9223372036854775807) :
    Calls Tryz.prog 48 #[v, .int .i64 draw] w fun e w' => ∃ v', e = .returned (.tuple #[v', .int .i64 (crashE d draw)]) /\ RDisk w' v' (crashD d draw) /\ NewD w.heap.size w' v v' d (crashD d draw) /\ Below w.heap.size w w' := by
 by_cases h : goodD d = true /\ 0 <= draw
 ·obtain ⟨hg, h0⟩ := h
  have he : crashE d draw = 0 := by unfold crashE; rw [if_pos ⟨hg, h0⟩]
  have hv : crashD d draw = ⟨crashL d draw.toNat d.safe.length, []⟩ := by unfold crashD; rw [if_pos ⟨hg, h0⟩]
  rw [he, hv]
  have := disk_Crash_good d draw.toNat v w hd hg (by omega)
  rwa [Int.toNat_of_nonneg h0] at this
 ·exact disk_Crash_bad d draw v w hd h
theorem disk_Read (d : Dsk) (n : Int) (v : Value) (w : World) (hd : RDisk w v d) :
    Calls Tryz.prog 23 #[v, .int .i64 n] w fun e w' => e = .returned (.tuple #[.string (readD d n), .int .i64 (readE d n)]) /\ Below w.heap.size w w' := by
 have hG := fun w (hh : RDisk w v d) => disk_Good d v w hh
 have hA := fun w => disk_at n w
 have hd2 := hd
 obtain ⟨vs, vw, rfl, hs, hw, n1, n2⟩ := hd
 obtain ⟨a, cap, rfl, _⟩ := hs.form
 obtain ⟨b, bcap, rfl, _⟩ := hw.form
 replace hd2 := hid hd2
 by_cases hg : goodD d = true
 ·rw [hg] at hG
  by_cases ha : isAt n = true
  ·rw [ha] at hA
   have hr : readD d n = lastT (safeAt d n) n (d.writes.take d.writes.length) := by unfold readD; rw [if_pos ⟨hg, ha⟩, List.take_length]
   have he : readE d n = 0 := by unfold readE; rw [if_pos ⟨hg, ha⟩]
   rw [he]
   obtain ⟨g1, g2, _, _⟩ := (goodD_iff d).1 hg
   obtain ⟨h0, h1⟩ : 0 <= n /\ n < 37 := of_decide_eq_true ha
   obtain ⟨m, rfl⟩ : ∃ m : Nat, n = m := ⟨n.toNat, by omega⟩
   have hm : m < d.safe.length := by omega
   have hsf : safeAt d m = d.safe[m] := by simp [safeAt, hm]
   rw [hsf] at hr
   clear hg ha he hsf
   generalize readD d m = r at *
   obtain ⟨safe, writes⟩ := d
   dsimp only at *
   have hlast := fun (k : Nat) (hk : k < writes.length) => lastT_hit safe[m] m hk
   have hmiss := fun (k : Nat) (hk : k < writes.length) => lastT_miss safe[m] m hk
   have hl0 := lastT_nil safe[m] m
   have hm3 : m < safe.length := hm
   replace hs := hid hs
   replace hw := hid hw
   replace hG := hid hG
   replace hA := hid hA
   replace hr := hid hr
   replace g1 := hid g1
   replace hlast := hid hlast
   replace hmiss := hid hmiss
   replace hl0 := hid hl0
   replace hm3 := hid hm3
   go_enter Tryz.func23, Tryz.ntmps23
   go_wp2_with (first
    | (go_at_call 46; refine (hG.out _ (hd2.out.below (by exact Zlo))).mono ?_; rintro e w1 ⟨rfl, hb1⟩; obtain ⟨hbc, hbf⟩ := bcell hb1; have hbz := hb1.size; try simp only [World.size_alloc, World.size_setCell, World.size_drew] at hbz; have hz0 := Nat.lt_of_lt_of_le (n := w.heap.size) (by omega) hbz)
    | (go_at_call 47; refine (hA.out _).mono ?_; rintro e w2 ⟨rfl, rfl⟩))
   have kb : Blk w1 w.heap.size #[.slice a safe.length cap, .slice b writes.length bcap] 58 := (Blk.new w _ _).step hb1
   have hnx : Below w.heap.size w w1 := by exact Zlo
   clear hb1 hbc hbf
   have lt0 := kb.lt
   have c0 := kb.cell 0
   have c1 := kb.cell 1
   simp only [Zga, Zgb, Zgc] at c0 c1
   go_loop [6] (fun i => ∃ k : Nat, k <= writes.length /\ i = .int .i64 ((k : Int) - 1) /\ Hid (r = lastT safe[m] m (writes.take k))) (fun i => (intOf i + 1).toNat)
   case atStart => exact ⟨writes.length, Nat.le_refl _, rfl, hr.out⟩
   case round =>
    obtain ⟨k, hk, rfl, hrk⟩ := hrel
    rcases Nat.eq_zero_or_pos k with hk0 | hk0
    ·subst hk0
     obtain ⟨b2, off, rfl, d0⟩ := RL.at1 (fun x => .string x) (fun _ => rfl) (hs.out.below hnx) hm3.out
     have hrs : r = safe[m] := by rw [hrk.out, List.take_zero]; exact hl0.out
     replace hrs := hid hrs
     clear hrk
     generalize safe[m] = sm at *
     go_wp2
     go_ret2
     exact ⟨ret_st hrs.out.symm, hnx⟩
    ·obtain ⟨j, rfl⟩ : ∃ j, k = j + 1 := ⟨k - 1, by omega⟩
     have hj : j < writes.length := by omega
     obtain ⟨b2, off, rfl, d0, d1⟩ := RL.at2 (fun x => .int .i64 x.at_) (fun x => .string x.text) (fun _ => rfl) (hw.out.below hnx) hj
     by_cases heq : writes[j].at_ = m
     ·have hrs : r = writes[j].text := by rw [hrk.out]; exact hlast.out j hj heq
      replace hrs := hid hrs
      have e1 : (writes[j].at_ == (m : Int)) = true := beq_iff_eq.2 heq
      clear hrk heq
      generalize writes[j] = x at *
      go_wp2
      go_ret2
      exact ⟨ret_st hrs.out.symm, hnx⟩
     ·have hrs : r = lastT safe[m] m (writes.take j) := by rw [hrk.out]; exact hmiss.out j hj heq
      replace hrs := hid hrs
      have e1 : (writes[j].at_ == (m : Int)) = false := beq_eq_false_iff_ne.2 heq
      clear hrk heq
      generalize writes[j] = x at *
      go_wp2
      go_round
      case rel => exact ⟨j, by omega, by go_num, hrs⟩
      case measure => simp [intOf]
  ·have hr : readD d n = ⟨#[]⟩ := by unfold readD; rw [if_neg (fun hh => ha hh.2)]
   have he : readE d n = 2 := by unfold readE; rw [if_neg (fun hh => ha hh.2)]
   rw [hr, he]
   rw [Bool.not_eq_true _ |>.mp ha] at hA
   clear hs hw ha hg hr he
   replace hG := hid hG
   replace hA := hid hA
   go_enter Tryz.func23, Tryz.ntmps23
   go_wp2_with (first
    | (go_at_call 46; refine (hG.out _ (hd2.out.below (by exact Zlo))).mono ?_; rintro e w1 ⟨rfl, hb1⟩; obtain ⟨hbc, hbf⟩ := bcell hb1; have hbz := hb1.size; try simp only [World.size_alloc, World.size_setCell, World.size_drew] at hbz; have hz0 := Nat.lt_of_lt_of_le (n := w.heap.size) (by omega) hbz)
    | (go_at_call 47; refine (hA.out _).mono ?_; rintro e w2 ⟨rfl, rfl⟩))
   go_ret2
   exact ⟨rfl, by exact Zlo⟩
 ·have hr : readD d n = ⟨#[]⟩ := by unfold readD; rw [if_neg (fun hh => hg hh.1)]
  have he : readE d n = 2 := by unfold readE; rw [if_neg (fun hh => hg hh.1)]
  rw [hr, he]
  rw [Bool.not_eq_true _ |>.mp hg] at hG
  clear hs hw hg hr he
  replace hG := hid hG
  go_enter Tryz.func23, Tryz.ntmps23
  go_wp2_with (go_at_call 46; refine (hG.out _ (hd2.out.below (by exact Zlo))).mono ?_; rintro e w1 ⟨rfl, hb1⟩; obtain ⟨hbc, hbf⟩ := bcell hb1; have hbz := hb1.size; try simp only [World.size_alloc, World.size_setCell, World.size_drew] at hbz; have hz0 := Nat.lt_of_lt_of_le (n := w.heap.size) (by omega) hbz)
  go_ret2
  exact ⟨rfl, by exact Zlo⟩
end Go.Proofs.YtjhmfljlclajnadGreatDoor
