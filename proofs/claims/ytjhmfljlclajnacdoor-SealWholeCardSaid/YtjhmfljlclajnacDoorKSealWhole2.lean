/- Parts of the proof: Range NewP TxnB AltP TxnD AltQ AskP EscP ScanP ScanA ScanB DiskP2 CrashP SealP Disk Disk3 Disk5 Slot DskN Disk8 Disk7 Rdx. -/
import Derived.Test.YtjhmfljlclajnacDoorKSealWhole1
import Derived.RangeFuncNested
import Derived.OrdersIn
import Derived.Test.YtjhmfljlclajnacDoorKSealWhole0
import Derived.Test.YtjhmfljlclajnacDoorUPure2
import Derived.Test.YtjhmfljlclajnacDoorUDecP2
import Derived.Test.YtjhmfljlclajnacDoorRows
import Derived.BigQuiet
import Derived.Deep.RegionWith
import Derived.Test.YtjhmfljlclajnacDoorURegApp
import Derived.Test.YtjhmfljlclajnacDoorURegCall
import Derived.Deep.RegionHeld3
import Derived.Deep.CutBlock
import Derived.Deep.DeepCutAuto
set_option linter.unusedVariables false
set_option linter.unusedSimpArgs false
namespace Wb
open Go Go.RowKit
abbrev FW : Fence := Fence.wide
def Iter (P : Program) (gf : Nat) (lb : Array Value) (xs : List Value) (B : List Nat) (w : World) : Prop :=
 ∀ (l : Nat) (J : Nat → World → Prop) (W : World), (∀ b ∈ B, W.heap[b]? = w.heap[b]?) → (∀ k A A', J k A → Below A.heap.size A A' → J k A') →
  (∀ k (hk : k < xs.length) A, J k A → YieldAt FW 0 P l #[xs[k]] A fun e A' => e = .returned (.bool true) ∧ J (k + 1) A' ∧ A.heap.size ≤ A'.heap.size ∧ ∀ b ∈ B, A'.heap[b]? = A.heap[b]?) →
  J 0 W → CallsIn FW 0 P gf (#[.func (.yield l) #[] #[]] ++ lb) W fun e W' => (∃ v, e = .returned v) ∧ J xs.length W'
section
variable {P : Program} {Q : Exit → Act → World → Prop} {a : Act} {w : World}
structure AtBody (W W1 : World) (p : Prop) : Prop where
 eq : W1 = W
 run : p
def BodyRun (P : Program) (body : Code) (w : World) (B : List Nat) (I : Nat → World → Prop) (k l : Nat) (a1 : Act) : Prop :=
 ∀ W2, w.heap.size ≤ W2.heap.size → I k W2 → body.wpIn (FW.inRound l) 0 P (fun e _ W' => e = .normal ∧ KeepsFrom w.heap.size W2 W' ∧ (∀ b ∈ B, W'.heap[b]? = W2.heap[b]?) ∧ I (k + 1) W') a1 W2
theorem wp_range {g : Operand} {p : Tmp} {assign body : Code} {gf : Nat} {lb : Array Value} {xs : List Value} {B : List Nat} (hg : a.eval g = .func (.func gf) #[] lb) (eg : ∀ args w, (callFunc gf args).run P w = .ok (.enter gf args) w)
    (hB : ∀ b ∈ B, b < w.heap.size) (hit : Iter P gf lb xs B w) (I : Nat → World → Prop) (hI : ∀ k A A', I k A → Below A.heap.size A A' → I k A')
    (hI2 : ∀ k A l o o', I k A → w.heap.size ≤ l → A.heap[l]? = some o → o.isCells = false → I k (A.putObj l o')) (h0 : I 0 w)
    (hround : ∀ k (hk : k < xs.length) l W, assign.wpIn (FW.inRound l) 0 P (Exit.then (fun a1 W1 => AtBody W W1 (BodyRun P body w B I k l a1)) (fun _ _ _ => False)) { tmps := a.tmps.setIfInBounds p xs[k], defers := [] } W)
    (hdone : ∀ D W, w.heap.size ≤ D → I xs.length W → W.heap[D]? = some (.deferred (some [])) → Q .normal { a with defers := { target := .collected D, args := #[] } :: a.defers } W) :
    (Code.rangeFunc g #[p] assign body).wp P Q a w := by
 refine (wpIn_wide (n := 0)).1 (wpIn_rangeFunc fun fn hfn => ?_)
 obtain ⟨rec, hrec⟩ : ∃ rec : LoopState → Option Code → Loop, rec = fun st pe => { state := st, pending := pe, fn, tmps := a.tmps, params := #[p], assign, body, defers := w.heap.size } := ⟨_, rfl⟩
 obtain ⟨W1, hW1⟩ : ∃ W1, (w.alloc (.deferred (some []))).alloc (.loop (rec .ready none)) = W1 := ⟨_, rfl⟩
 have hb1 : Below w.heap.size w W1 := by rw [← hW1]; exact bal (bal (b0 w) _) _
 have hL1 : W1.heap[w.heap.size + 1]? = some (.loop (rec .ready none)) := by
  rw [← hW1]; have := World.alloc_heap_new (w.alloc (.deferred (some []))) (.loop (rec .ready none)); rwa [World.size_alloc] at this
 have hK1 : W1.heap[w.heap.size]? = some (.deferred (some [])) := by
  rw [← hW1]; exact (Below.heap_alloc _ _ _ (by simp)).trans (World.alloc_heap_new w _)
 have hne : ∀ {W : World} {l : Nat} {o : Obj}, w.heap.size ≤ l → ∀ b ∈ B, (W.putObj l o).heap[b]? = W.heap[b]? := fun hl b hb => World.putObj_heap_other (by have := hB b hb; omega)
 refine ⟨w.heap.size + 1, [{ target := .collected w.heap.size, args := #[] }], W1, { target := .fn (.func gf) lb, args := #[.func (.yield (w.heap.size + 1)) #[] #[]] }, W1, gf,
  #[.func (.yield (w.heap.size + 1)) #[] #[]] ++ lb, W1, ?_, ?_, fun _ _ => trivial, ?_, fun h => by simp [Fence.wide] at h, ?_⟩
 ·rw [← hW1, hrec]; exact run_enterLoop_outer _ _ _ _ _
 ·simp only [resolve, hg]
  simp [go_sem]
 ·simp [invoke, go_sem, eg]
 refine (hit (w.heap.size + 1) (fun k W => I k W ∧ W.heap[w.heap.size + 1]? = some (.loop (rec .ready none)) ∧ W.heap[w.heap.size]? = some (.deferred (some [])) ∧ w.heap.size ≤ W.heap.size) W1
  (fun b hb => hb1.block b (hB b hb)) (fun k A A' h hb => ?_) (fun k hk A h => ?_) ⟨hI _ _ _ h0 hb1, hL1, hK1, hb1.size⟩).mono ?_
 ·obtain ⟨h1, h2, h3, h4⟩ := h
  exact ⟨hI _ _ _ h1 hb, (hb.block _ (Array.getElem?_eq_some_iff.1 h2).1).trans h2, (hb.block _ (Array.getElem?_eq_some_iff.1 h3).1).trans h3, Nat.le_trans h4 hb.size⟩
 ·obtain ⟨hi, hl, hk1, hsz⟩ := h
  have hlt : w.heap.size + 1 < A.heap.size := (Array.getElem?_eq_some_iff.1 hl).1
  have hy := run_yield (P := P) (args := #[xs[k]]) hl (by rw [hrec]; simp)
  rw [hrec] at hy
  have hl2 : (A.putObj (w.heap.size + 1) (.loop { rec .ready none with state := .busy })).heap[w.heap.size + 1]? = some (.loop { rec .ready none with state := .busy }) := World.putObj_heap_same hlt
  have hk2 : (A.putObj (w.heap.size + 1) (.loop { rec .ready none with state := .busy })).heap[w.heap.size]? = some (.deferred (some [])) := (World.putObj_heap_other (by omega)).trans hk1
  have hts : (#[p].zip #[xs[k]]).foldl (fun t (x : Tmp × Value) => t.setIfInBounds x.1 x.2) a.tmps = a.tmps.setIfInBounds p xs[k] := by simp
  refine ⟨fn, _, assign, body, hy, roundIn_of_wpIn hfn ?_⟩
  have hr0 := hround k hk (w.heap.size + 1) A
  rw [← hts] at hr0
  refine wpIn_mono hr0 ?_
  intro e a1 W1 hq
  cases e with
  | normal =>
   obtain ⟨rfl, hq⟩ := hq
   refine ⟨_, run_beginRound hl (by rw [hrec]), wpIn_mono (hq _ (by simpa using hsz) (hI2 _ _ _ _ _ hi (by omega) hl rfl)) ?_⟩
   rintro e a3 W3 ⟨rfl, hk3, hB3, hi3⟩
   have hl3 := hk3.same _ _ (by omega) hl2 rfl
   have hr := run_endRound (P := P) none hl3
   rw [hrec] at hr hl3 ⊢
   have hlt3 := (Array.getElem?_eq_some_iff.1 hl3).1
   refine ⟨_, _, hr, rfl, ⟨hI2 _ _ _ _ _ hi3 (by omega) hl3 rfl, World.putObj_heap_same hlt3, (World.putObj_heap_other (by omega)).trans (hk3.same _ _ (Nat.le_refl _) hk2 rfl), ?_⟩, ?_, fun b hb => ?_⟩
   ·have := hk3.size; simp at this ⊢; omega
   ·have := hk3.size; simp at this ⊢; omega
   ·rw [hne (by omega) b hb, hB3 b hb]
    exact hne (by omega) b hb
  | _ => exact hq.elim
 ·rintro e W2 ⟨⟨v, rfl⟩, hi, hl, hk, hsz⟩
  exact ⟨none, _, by have := run_endLoop (P := P) hl (by rw [hrec]; simp); rw [hrec] at this; exact this, hdone _ _ (Nat.le_refl _) (hI2 _ _ _ _ _ hi (by omega) hl rfl) ((World.putObj_heap_other (by omega)).trans hk)⟩
theorem upon_in {F : Fence} {n : Nat} (hd : F.depth = none) (hf : ∀ f, F.fn f) (hF : ∀ m, Machine.fenced P F m) {o : Oper} {K : Act → World → Prop} : ∀ {r : Result Next}, o.upon P a K Q r → o.uponIn F n P a K Q r
 | .ok (.value v) w', h => h
 | .ok .skip w', h => h
 | .ok (.defer d) w', h => h
 | .ok (.enter f args) w', h => ⟨fun hh => (by rw [hd] at hh; cases hh), hf f, fun cs _ => by
     obtain ⟨e, w2, fr, h1, h2, h3⟩ := h cs
     refine ⟨e, w2, fr, ?_, ?_, h3⟩
     · cases e <;> exact h1
     · cases e with
       | returned v => exact (StepsIn.of_steps h2).mono fun m _ => hF m
       | panicked c => exact (StepsIn.of_steps h2).mono fun m _ => hF m
       | outgrown => exact h2⟩
 | .ok (.row row args) w', h => ⟨fun hh => (by rw [hd] at hh; cases hh), fun c cs _ => by
     obtain ⟨v, w2, h1, h2⟩ := h c cs
     exact ⟨v, w2, h1, (StepsIn.of_steps h2).mono fun m _ => hF m⟩⟩
 | .ok (.round ..) w', h => h.elim
 | .halt x w', h => by cases x <;> first | exact h | exact h.elim
def noDefer : Oper → Bool := fun o => match o.op with | .defer _ => false | _ => true
theorem oper_in {F : Fence} {n : Nat} (hd : F.depth = none) (hf : ∀ f, F.fn f) (hF : ∀ m, Machine.fenced P F m) {o : Oper} (ho : noDefer o = true) {K : Act → World → Prop} (h : o.wp P a w K Q) : o.wpIn F n P a w K Q := by
 have hs : o.semAt F.round a.eval = execOp a.eval o := by
  cases hr : F.round with
  | none => simp [Oper.semAt]
  | some l => exact Oper.semAt_some l _ _ fun c hc => by unfold noDefer at ho; rw [hc] at ho; cases ho
 refine ⟨fun f _ => hf f, ?_⟩
 rw [hs]
 exact upon_in hd hf hF h
theorem list_in {F : Fence} {n : Nat} (hd : F.depth = none) (hf : ∀ f, F.fn f) (hF : ∀ m, Machine.fenced P F m) {ops : Array Oper} (hno : ∀ a w, ¬ Q .outgrown a w) : ∀ (l : List Oper) (a : Act) (w : World), l.all noDefer = true → wpList P ops Q l a w → wpListIn F n P ops Q l a w
 | [], _, _, _, h => h
 | o :: r, a, w, hn, h => by
  rw [List.all_cons, Bool.and_eq_true] at hn
  unfold wpList at h
  unfold wpListIn
  split at h
  ·rename_i hw
   rw [if_pos hw]
   exact Oper.wpIn_mono (fun a w hh => list_in hd hf hF hno r a w hn.2 hh) (oper_in hd hf hF hn.1 (h.resolve_right fun hh => by obtain ⟨_, a, w, hq⟩ := hh; exact hno a w hq))
  ·rename_i hw
   rw [if_neg hw]
   exact ⟨fun f _ => hf f, list_in hd hf hF hno r _ _ hn.2 h⟩
theorem region_in {l id : Nat} {ops : List Oper} (hn : ops.all noDefer = true) (hno : ∀ a w, ¬ Q .outgrown a w) (h : wpList P ops.toArray Q ops a w) : (Code.region id ops.toArray false).wpIn (FW.inRound l) 0 P Q a w :=
 wpIn_region_lit (list_in (F := FW.inRound l) rfl (fun _ => trivial) (fun m => fenced_wide P m) hno _ _ _ hn h)
end
section
variable {S : List Nat} {w0 W W' : World} {L L' : List Ent} {R R' : List Rd}
theorem St.restart (X : St S w0 W L R) : St (L.map Ent.g) W W L R := ⟨Mv.refl _ _, X.nd, X.blk, fun e he => .inl (List.mem_map_of_mem he), X.rd⟩
theorem St.back (X : St S w0 W L R) (Y : St (L.map Ent.g) W W' L' R') : St S w0 W' L' R' :=
 ⟨X.mv.then Y.mv fun k hk => by
     obtain ⟨e, he, rfl⟩ := List.mem_map.1 hk
     exact X.own e he, Y.nd, Y.blk, fun e he => by
     rcases Y.own e he with h | h
     · obtain ⟨e2, he2, heq⟩ := List.mem_map.1 h
       rw [← heq]; exact X.own e2 he2
     · exact .inr (Nat.le_trans X.mv.size h), Y.rd⟩
theorem St.keepsFrom (X : St S w0 W L R) (Y : St (L.map Ent.g) W W' L' R') (B : Nat) : KeepsFrom B W W' :=
 ⟨Y.mv.size, fun k o _ hk ho => by
  refine (Y.mv.block k (Array.getElem?_eq_some_iff.1 hk).1 fun hm => ?_).trans hk
  obtain ⟨e, he, rfl⟩ := List.mem_map.1 hm
  have := X.blk e he
  unfold Blk at this
  rw [this] at hk
  cases hk
  cases ho⟩
theorem St.other (X : St S w0 W L R) (Y : St (L.map Ent.g) W W' L' R') {D : Nat} {o : Obj} (hD : W.heap[D]? = some o) (ho : o.isCells = false) : W'.heap[D]? = some o := (X.keepsFrom Y 0).same D o (Nat.zero_le _) hD ho
theorem St.putO (X : St S w0 W L R) {l : Nat} {o : Obj} (o' : Obj) (hl : w0.heap.size ≤ l) (ho : W.heap[l]? = some o) (hc : o.isCells = false) (hS : l ∉ S) : St S w0 (W.putObj l o') L R := by
 have hne : ∀ {b : Nat} {cs t f}, W.heap[b]? = some (.cells cs t f) → b ≠ l := fun hb e => by
  rw [e, ho] at hb; cases hb; cases hc
 have hcell : ∀ {b j : Nat} {u : Value}, W.cell? ⟨b, j, none⟩ = some u → (W.putObj l o').cell? ⟨b, j, none⟩ = some u := fun {b j u} h => by
  obtain ⟨q, hq, hw⟩ := not_walk_of_cell h
  have hb : b ≠ l := fun e => by
   subst e
   unfold World.cell? at h
   rw [ho] at h
   cases o <;> simp_all [Obj.isCells]
  rw [← h]
  exact World.cell?_of_block (World.putObj_heap_other hb)
 refine ⟨⟨X.mv.os, X.mv.tape, X.mv.output, by simpa using X.mv.size, fun k hk hn => ?_⟩, X.nd, fun e he => ?_, X.own, fun r hr => ⟨?_, (X.rd r hr).2⟩⟩
 ·rw [World.putObj_heap_other (by omega)]; exact X.mv.block k hk hn
 ·have := X.blk e he
  unfold Blk at this ⊢
  rw [World.putObj_heap_other (hne this)]; exact this
 ·obtain ⟨a, cap, hv, h1, h2, h3⟩ := (X.rd r hr).1
  exact ⟨a, cap, hv, h1, h2, h3.imp id fun ⟨b, off, ha, hc2⟩ => ⟨b, off, ha, fun j u hj => hcell (hc2 j u hj)⟩⟩
end
theorem St.gs6 {S : List Nat} {w0 w : World} {a b c d e f : Nat} {ca cb cc cd ce cf : List Value} {ta tb tc td te tf : TypeId} {L : List Ent} {R : List Rd} (_ : St S w0 w (⟨a, ca, ta⟩ :: ⟨b, cb, tb⟩ :: ⟨c, cc, tc⟩ :: ⟨d, cd, td⟩ :: ⟨e, ce, te⟩ :: ⟨f, cf, tf⟩ :: L) R) : ∃ x1 x2 x3 x4 x5 x6, x1 = a ∧ x2 = b ∧ x3 = c ∧ x4 = d ∧ x5 = e ∧ x6 = f := ⟨_, _, _, _, _, _, rfl, rfl, rfl, rfl, rfl, rfl⟩
theorem St.gs4 {S : List Nat} {w0 w : World} {a b c d : Nat} {ca cb cc cd : List Value} {ta tb tc td : TypeId} {L : List Ent} {R : List Rd} (_ : St S w0 w (⟨a, ca, ta⟩ :: ⟨b, cb, tb⟩ :: ⟨c, cc, tc⟩ :: ⟨d, cd, td⟩ :: L) R) : ∃ x1 x2 x3 x4, x1 = a ∧ x2 = b ∧ x3 = c ∧ x4 = d := ⟨_, _, _, _, rfl, rfl, rfl, rfl⟩
theorem St.front (pre : List Ent) {S : List Nat} {w0 w : World} {x : Ent} {L : List Ent} {R : List Rd} (X : St S w0 w (pre ++ x :: L) R) : St S w0 w (x :: (pre ++ L)) R := X.perm List.perm_middle
theorem St.gs2 {S : List Nat} {w0 w : World} {a b : Nat} {ca cb : List Value} {ta tb : TypeId} {L : List Ent} {R : List Rd} (_ : St S w0 w (⟨a, ca, ta⟩ :: ⟨b, cb, tb⟩ :: L) R) : ∃ x1 x2, x1 = a ∧ x2 = b := ⟨_, _, rfl, rfl⟩
theorem St.gs1 {S : List Nat} {w0 w : World} {a : Nat} {ca : List Value} {ta : TypeId} {L : List Ent} {R : List Rd} (_ : St S w0 w (⟨a, ca, ta⟩ :: L) R) : ∃ x1, x1 = a := ⟨_, rfl⟩
theorem St.less {S : List Nat} {w0 w : World} {L L2 : List Ent} {R R2 : List Rd} (X : St S w0 w L R) (hL : L2.Sublist L) (hR : ∀ r ∈ R2, r ∈ R) : St S w0 w L2 R2 :=
 ⟨X.mv, (hL.map _).nodup X.nd, fun x hx => X.blk x (hL.subset hx), fun x hx => X.own x (hL.subset hx), fun r hr => ⟨(X.rd r (hR r hr)).1, (X.rd r (hR r hr)).2.imp id fun h b hb x hx => h b hb x (hL.subset hx)⟩⟩
theorem own_base {α : Type} {f : α → List Value} {base : Nat} {e : TypeId} {c : Nat} {w : World} {v : Value} {l : List α} (hF : Flat f c) (h : Wb.Own f base e c w v l) (hl : 0 < l.length) : ∃ g cap, v = .slice (some ⟨g, 0, none⟩) l.length cap ∧ l.length ≤ cap ∧ cap ≤ maxLen := by
 obtain ⟨h1, h2⟩ := h
 rcases h2 with ⟨rfl, h0⟩ | ⟨g, cap, cur, rfl, hb, hg, hn, hc, hs, ht⟩
 ·omega
 ·exact ⟨g, cap, rfl, hn, hc⟩
theorem RL.part {α : Type} {f : α → List Value} {c : Nat} (hF : ∀ x, (f x).length = c) {w : World} {b off n cap : Nat} {l : List α} (h : RL f w (.slice (some ⟨b, off, none⟩) n cap) l) (j m : Nat) (hm : j + m ≤ l.length) : RL f w (.slice (some ⟨b, off + j * c, none⟩) m m) ((l.drop j).take m) := by
 obtain ⟨a, cap', hv, h1, h2, h3⟩ := h
 have hl : ((l.drop j).take m).length = m := by rw [List.length_take, List.length_drop]; omega
 refine ⟨_, m, by rw [hl], by rw [hl]; exact Nat.le_refl _, by omega, ?_⟩
 rcases h3 with h3 | ⟨b', off', ha, hc⟩
 ·left
  have h4 := flat_len hF l
  rw [h3, List.length_nil] at h4
  have h5 := flat_len hF ((l.drop j).take m)
  rw [hl] at h5
  have : m * c = 0 := by
   rcases Nat.mul_eq_zero.1 h4.symm with h6 | h6
   ·have : m = 0 := by omega
    rw [this, Nat.zero_mul]
   ·rw [h6, Nat.mul_zero]
  rw [this] at h5
  exact List.length_eq_zero_iff.1 h5
 ·right
  cases hv; cases ha
  refine ⟨b, off + j * c, rfl, fun i u hi => ?_⟩
  rw [Nat.add_assoc]
  apply hc
  have e : l.flatMap f = (l.take j).flatMap f ++ ((l.drop j).take m).flatMap f ++ ((l.drop j).drop m).flatMap f := by
   rw [← List.flatMap_append, ← List.flatMap_append, List.append_assoc, List.take_append_drop, List.take_append_drop]
  have hl2 : ((l.take j).flatMap f).length = j * c := by rw [flat_len hF, List.length_take]; congr 1; omega
  rw [e, List.append_assoc, List.getElem?_append_right (by omega), hl2, Nat.add_sub_cancel_left, List.getElem?_append_left (List.getElem?_eq_some_iff.1 hi).1]
  exact hi
theorem St.partR {S : List Nat} {w0 w : World} {L : List Ent} {R : List Rd} (X : St S w0 w L R) {α : Type} {f : α → List Value} {c : Nat} (hF : ∀ x, (f x).length = c) {b off n cap : Nat} {l : List α} (hR : Rd.of f (.slice (some ⟨b, off, none⟩) n cap) l ∈ R) (j m : Nat) (hm : j + m ≤ l.length) :
    St S w0 w L (Rd.of f (.slice (some ⟨b, off + j * c, none⟩) m m) ((l.drop j).take m) :: R) := by
 obtain ⟨h1, h2⟩ := X.rd _ hR
 refine X.addR (RL.part hF h1 j m hm) ?_
 rcases h2 with h2 | h2
 ·left
  have h3 : l.flatMap f = [] := h2
  have h4 := flat_len hF l
  rw [h3, List.length_nil] at h4
  have h5 := flat_len hF ((l.drop j).take m)
  rw [List.length_take, List.length_drop] at h5
  have : min m (l.length - j) * c = 0 := by
   rcases Nat.mul_eq_zero.1 h4.symm with h6 | h6
   ·have : min m (l.length - j) = 0 := by omega
    rw [this, Nat.zero_mul]
   ·rw [h6, Nat.mul_zero]
  rw [this] at h5
  exact List.length_eq_zero_iff.1 h5
 ·right
  intro b' hb e he
  cases hb
  exact h2 b rfl e he
theorem St.shortR {S : List Nat} {w0 w : World} {L : List Ent} {R : List Rd} (X : St S w0 w L R) {α : Type} {f : α → List Value} {a : Option Addr} {cap : Nat} {l : List α} (hR : Rd.of f (.slice a l.length cap) l ∈ R) : St S w0 w L (Rd.of f (.slice a l.length l.length) l :: R) := by
 obtain ⟨⟨a', c', hv, h1, h3, h4⟩, h2⟩ := X.rd _ hR
 cases hv
 exact X.addR ⟨_, _, rfl, Nat.le_refl _, Nat.le_trans h1 h3, h4⟩ (h2.imp id fun h b hb => h b (by cases a with | none => cases hb | some x => exact hb))
section
variable {P : Program} {fn : Func} {F : Ending → World → Prop} {a : Act} {w w0 : World} {S : List Nat} {L : List Ent} {R : List Rd}
theorem leave0 (h : bodyPost P fn F .ret a w) : bodyPostM FW 0 P fn F .ret a w := by
 obtain ⟨hd, v, h1, h2⟩ := h
 show LeavesInM FW 0 P fn a.tmps F a.defers .returning w
 rw [hd]
 exact ⟨v, h1, h2⟩
theorem leaveD {D : Nat} {ds : List Deferred} {T : Array Value} (hD : w.heap[D]? = some (.deferred (some []))) (h : LeavesInM FW 0 P fn T F ds .returning (w.putObj D (.deferred none))) : LeavesInM FW 0 P fn T F ({ target := .collected D, args := #[] } :: ds) .returning w :=
 ⟨by simp, .inl ⟨_, _, rfl, run_takeDeferred hD, h⟩⟩
theorem m_leave2 {D1 D2 : Nat} {p q r : Tmp} {T : TypeId} (hr : fn.results = #[.cell p T, .tmp q, .tmp r]) {g : Nat} (hp : EvR a (.tmp p) (.pointer (some ⟨g, 0, none⟩))) {v u : Value} (hq : EvR a (.tmp q) v) (hu : EvR a (.tmp r) u) {n : Nat} [hT : AggT P T n] (X : St S w0 w L R)
    {cs : List Value} {t : TypeId} (he : ⟨g, cs, t⟩ ∈ L) (hn : cs.length = n) (hd : a.defers = [{ target := .collected D2, args := #[] }, { target := .collected D1, args := #[] }]) (h1 : w.heap[D1]? = some (.deferred (some []))) (h2 : w.heap[D2]? = some (.deferred (some []))) (h12 : D1 ≠ D2)
    (s1 : w0.heap.size ≤ D1) (s2 : w0.heap.size ≤ D2) (n1 : D1 ∉ S) (n2 : D2 ∉ S) (h : ∀ w', St S w0 w' L R → F (.returned (.tuple #[.agg cs.toArray, v, u])) w') : bodyPostM FW 0 P fn F .ret a w := by
 have hp' : a.tmps[p]?.getD undef = .pointer (some ⟨g, 0, none⟩) := by have := hp.eval; simpa [Act.eval] using this
 have hq' : a.tmps[q]?.getD undef = v := by have := hq.eval; simpa [Act.eval] using this
 have hu' : a.tmps[r]?.getD undef = u := by have := hu.eval; simpa [Act.eval] using this
 have h1' : (w.putObj D2 (.deferred none)).heap[D1]? = some (.deferred (some [])) := (World.putObj_heap_other h12).trans h1
 have X2 := (X.putO (.deferred none) s2 h2 rfl n2).putO (.deferred none) s1 h1' rfl n1
 show LeavesInM FW 0 P fn a.tmps F a.defers .returning w
 rw [hd]
 refine leaveD h2 (leaveD h1' ⟨.tuple #[.agg cs.toArray, v, u], ?_, h _ X2⟩)
 simp [results, hr, hp', hq', hu', asAddr, X2.whole (T := T) he hn]
def leavePost (P : Program) (fn : Func) (F : Ending → World → Prop) : Exit → Act → World → Prop
 | .ret, a, w => bodyPostM FW 0 P fn F .ret a w
 | .normal, a, w => bodyPostM FW 0 P fn F .normal a w
 | _, _, _ => False
theorem calls_marks {f : FuncId} {c : Code} {args : Array Value} {R : Ending → World → Prop} (hf : P.funcs[f]? = some fn) (hb : fn.body = some c)
    (h : c.wp P (leavePost P fn R) { tmps := args ++ Array.replicate (fn.ntmps - args.size) undef, defers := [] } w) : Calls P f args w R :=
 (callsIn_wide (n := 0)).1 (callsIn_of_wp_marks hf hb trivial ((wpIn_wide (n := 0)).2 (wp_mono h fun e a w hq => by cases e <;> first | exact hq | exact hq.elim)) rfl)
end
def viewN (f : Int → Option ByteArray) (n : Nat) : List Cpy := (List.range n).filterMap fun (k : Nat) => (f k).map fun t => (⟨k, t⟩ : Cpy)
def viewL (f : Int → Option ByteArray) : List Cpy := viewN f 12
def turnT (t : Txn) (o : Option ByteArray) (b : Int) : Option ByteArray := match getC t.mt b with | some s => some s | none => if inI t.rev b then none else o
def newestB (l : List Txn) (b : Int) : Option ByteArray := l.foldl (fun o t => turnT t o b) none
def newestL (l : List Txn) : List Cpy := viewL (newestB l)
theorem rise_get {l : List Int} (h : rise l = true) {k : Nat} (hk : k < l.length) : 0 ≤ l[k] ∧ l[k] < 12 ∧ ∀ i (hi : i < k), l[i] < l[k] := by
 have hr := (rise_iff l).1 h
 have hg : ∀ j (hj : j < l.length), l.getD j 0 = l[j] := fun j hj => by simp [hj]
 have hlt : ∀ d i, i + d < l.length → 0 < d → l.getD i 0 < l.getD (i + d) 0 := by
  intro d
  induction d with
  | zero => intro i _ h; omega
  | succ d ih =>
   intro i hi _
   have h1 := (hr (i + (d + 1)) hi).2.2 (by omega)
   rw [show i + (d + 1) - 1 = i + d by omega] at h1
   by_cases hd : 0 < d
   ·have := ih i (by omega) hd
    omega
   ·obtain rfl : d = 0 := by omega
    simpa using h1
 have h0 := hr k hk
 refine ⟨by rw [← hg k hk]; exact h0.1, by rw [← hg k hk]; exact h0.2.1, fun i hi => ?_⟩
 have := hlt (k - i) i (by omega) (by omega)
 rw [show i + (k - i) = k by omega, hg i (by omega), hg k hk] at this
 exact this
theorem copies_get {l : List Cpy} (h : copiesB l = true) {k : Nat} (hk : k < l.length) : isBlk l[k].block = true ∧ l[k].text.size = 32 ∧ (∀ i (hi : i < k), l[i].block < l[k].block) ∧ hasB (l.take k) l[k].block = false := by
 unfold copiesB at h
 rw [Bool.and_eq_true] at h
 have hk' : k < (blks l).length := by simpa [blks] using hk
 obtain ⟨g1, g2, g3⟩ := rise_get h.1 hk'
 have e : ∀ j (hj : j < l.length), (blks l)[j]'(by simpa [blks] using hj) = l[j].block := fun j hj => by simp [blks]
 rw [e k hk] at g1 g2
 have g4 : ∀ i (hi : i < k), l[i].block < l[k].block := fun i hi => by
  have := g3 i hi
  rw [e k hk, e i (by omega)] at this
  exact this
 refine ⟨decide_eq_true ⟨g1, g2⟩, of_decide_eq_true (List.all_eq_true.1 h.2 _ (List.getElem_mem hk)), g4, ?_⟩
 unfold hasB
 rw [List.any_eq_false]
 intro c hc
 obtain ⟨i, hi, rfl⟩ := List.mem_iff_getElem.1 hc
 rw [List.length_take] at hi
 rw [List.getElem_take]
 have := g4 i (by omega)
 simp only [beq_iff_eq]
 omega
theorem copies_len {l : List Cpy} (h : copiesB l = true) : l.length ≤ 12 := by
 by_cases hl : l.length ≤ 12
 ·exact hl
 ·exfalso
  have hk : ∀ k (hk : k < l.length), (k : Int) ≤ l[k].block := by
   intro k
   induction k with
   | zero => intro hk; have := of_decide_eq_true (copies_get h hk).1; exact this.1
   | succ k ih =>
    intro hk
    have h1 := ih (by omega)
    have h2 := (copies_get h hk).2.2.1 k (by omega)
    omega
  have h12 := of_decide_eq_true (copies_get h (k := 12) (by omega)).1
  have := hk 12 (by omega)
  omega
theorem rise_len {l : List Int} (h : rise l = true) : l.length ≤ 12 := by
 by_cases hl : l.length ≤ 12
 ·exact hl
 ·exfalso
  have hk : ∀ k (hk : k < l.length), (k : Int) ≤ l[k] := by
   intro k
   induction k with
   | zero => intro hk; exact (rise_get h hk).1
   | succ k ih =>
    intro hk
    have h1 := ih (by omega)
    have h2 := (rise_get h hk).2.2 k (by omega)
    omega
  have h12 := (rise_get h (k := 12) (by omega)).2.1
  have := hk 12 (by omega)
  omega
def cmpI (x y : Int) : Int := if x < y then -1 else if y < x then 1 else 0
theorem cmpI_lt {x y : Int} (h : x < y) : cmpI x y = -1 := if_pos h
theorem cmpI_gt {x y : Int} (h : y < x) : cmpI x y = 1 := by unfold cmpI; rw [if_neg (by omega), if_pos h]
theorem cmpI_eq {x y : Int} (h : x = y) : cmpI x y = 0 := by unfold cmpI; rw [if_neg (by omega), if_neg (by omega)]
def posB (l : List Cpy) (b : Int) : Nat := (l.filter (fun c => decide (c.block < b))).length
theorem pos_of {l : List Cpy} {b : Int} {i : Nat} (hi : i ≤ l.length) (h1 : ∀ k (hk : k < l.length), k < i → l[k].block < b) (h2 : ∀ k (hk : k < l.length), i ≤ k → b ≤ l[k].block) : posB l b = i := by
 unfold posB
 have e : l.filter (fun c => decide (c.block < b)) = l.take i := by
  conv => lhs; rw [← List.take_append_drop i l, List.filter_append]
  rw [List.filter_eq_self.2, List.filter_eq_nil_iff.2, List.append_nil]
  ·intro c hc
   obtain ⟨k, hk, rfl⟩ := List.mem_iff_getElem.1 hc
   rw [List.getElem_drop]
   rw [List.length_drop] at hk
   have := h2 (i + k) (by omega) (by omega)
   simpa using this
  ·intro c hc
   obtain ⟨k, hk, rfl⟩ := List.mem_iff_getElem.1 hc
   rw [List.getElem_take]
   rw [List.length_take] at hk
   exact decide_eq_true (h1 k (by omega) (by omega))
 rw [e, List.length_take]
 omega
theorem rises {l : List Cpy} (h : rise (blks l) = true) : ∀ k (hk : k < l.length) i (hi : i < k), l[i].block < l[k].block := by
 intro k hk i hi
 have hk' : k < (blks l).length := by simpa [blks] using hk
 have := (rise_get h hk').2.2 i hi
 simpa [blks] using this
theorem has_of {l : List Cpy} {b : Int} {i : Nat} (hs : ∀ k (hk : k < l.length) i (hi : i < k), l[i].block < l[k].block) (h1 : ∀ k (hk : k < l.length), k < i → l[k].block < b) (h2 : ∀ k (hk : k < l.length), i ≤ k → b ≤ l[k].block) :
    hasB l b = true ↔ ∃ h : i < l.length, l[i].block = b := by
 unfold hasB
 rw [List.any_eq_true]
 constructor
 ·rintro ⟨c, hc, hb⟩
  obtain ⟨k, hk, rfl⟩ := List.mem_iff_getElem.1 hc
  have hb : l[k].block = b := beq_iff_eq.1 hb
  have hik : i ≤ k := by
   by_cases hki : k < i
   ·have := h1 k hk hki; omega
   ·omega
  refine ⟨by omega, ?_⟩
  by_cases e : i = k
  ·subst e; exact hb
  ·have := hs k hk i (by omega)
   have := h2 i (by omega) (Nat.le_refl _)
   omega
 ·rintro ⟨h, hb⟩
  exact ⟨_, List.getElem_mem h, beq_iff_eq.2 hb⟩
theorem rise_pw (l : List Int) : rise l = true ↔ l.Pairwise (· < ·) ∧ ∀ x ∈ l, 0 ≤ x ∧ x < 12 := by
 constructor
 ·intro h
  refine ⟨List.pairwise_iff_getElem.2 fun i j hi hj hij => (rise_get h hj).2.2 i hij, fun x hx => ?_⟩
  obtain ⟨k, hk, rfl⟩ := List.mem_iff_getElem.1 hx
  exact ⟨(rise_get h hk).1, (rise_get h hk).2.1⟩
 ·rintro ⟨h1, h2⟩
  rw [rise_iff]
  intro k hk
  have e := h2 l[k] (List.getElem_mem hk)
  refine ⟨by simpa [List.getD_eq_getElem?_getD, hk] using e.1, by simpa [List.getD_eq_getElem?_getD, hk] using e.2, fun h0 => ?_⟩
  have := List.pairwise_iff_getElem.1 h1 (k - 1) k (by omega) hk (by omega)
  simpa [List.getD_eq_getElem?_getD, hk, show k - 1 < l.length by omega] using this
theorem copies_pw (l : List Cpy) : copiesB l = true ↔ (blks l).Pairwise (· < ·) ∧ ∀ c ∈ l, isBlk c.block = true ∧ c.text.size = 32 := by
 unfold copiesB
 rw [Bool.and_eq_true, rise_pw, List.all_eq_true]
 constructor
 ·rintro ⟨⟨h1, h2⟩, h3⟩
  exact ⟨h1, fun c hc => ⟨decide_eq_true (h2 _ (List.mem_map_of_mem hc)), of_decide_eq_true (h3 c hc)⟩⟩
 ·rintro ⟨h1, h2⟩
  refine ⟨⟨h1, fun x hx => ?_⟩, fun c hc => decide_eq_true (h2 c hc).2⟩
  obtain ⟨c, hc, rfl⟩ := List.mem_map.1 hx
  exact of_decide_eq_true (h2 c hc).1
theorem mem_getC : ∀ {l : List Cpy}, (blks l).Pairwise (· < ·) → ∀ c : Cpy, c ∈ l ↔ getC l c.block = some c.text
 | [], _, c => by simp [getC]
 | x :: l, h, c => by
  rw [blks, List.map_cons, List.pairwise_cons] at h
  have ih := mem_getC (l := l) h.2 c
  rw [List.mem_cons]
  by_cases e : x.block = c.block
  ·have hg : getC (x :: l) c.block = some x.text := by simp [getC, e]
   rw [hg]
   constructor
   ·rintro (rfl | hc)
    ·rfl
    ·have := h.1 c.block (List.mem_map_of_mem hc); omega
   ·intro ht
    left
    obtain ⟨b, t⟩ := x; obtain ⟨b', t'⟩ := c
    simp only [Option.some.injEq] at ht
    simp only at e
    rw [e, ht]
  ·have hg : getC (x :: l) c.block = getC l c.block := by
     unfold getC
     rw [List.find?_cons_of_neg (by simpa using e)]
   rw [hg, ← ih]
   constructor
   ·rintro (rfl | hc)
    ·exact absurd rfl e
    ·exact hc
   ·exact .inr
theorem getC_of_mem {l : List Cpy} (h : (blks l).Pairwise (· < ·)) {c : Cpy} (hc : c ∈ l) : getC l c.block = some c.text := (mem_getC h c).1 hc
theorem hasB_iff {l : List Cpy} {b : Int} : hasB l b = true ↔ ∃ c ∈ l, c.block = b := by simp [hasB]
theorem inI_iff {l : List Int} {b : Int} : inI l b = true ↔ b ∈ l := by simp [inI]
theorem copies_rise {l : List Cpy} (h : copiesB l = true) : rise (blks l) = true := by
 unfold copiesB at h; rw [Bool.and_eq_true] at h; exact h.1
def openB (t : Txn) : Bool := t.h0.on || t.h1.on || t.h2.on
theorem notGood' {t : Txn} (h : seqOk t.seq = false ∨ copiesB t.mt = false ∨ copiesB t.dt = false ∨ rise t.rev = false ∨ apart t = false ∨ hOk t.h0 = false ∨ hOk t.h1 = false ∨ hOk t.h2 = false) : goodT t = false := by
 cases hg : goodT t
 ·rfl
 ·obtain ⟨h1, h2, h3, h4, h5, h6, h7, h8⟩ := (goodT_iff t).1 hg
  rw [h1, h2, h3, h4, h5, h6, h7, h8] at h
  simp at h
theorem hOk_iff' (h : Hnd) : hOk h = true ↔ 0 ≤ h.left ∧ h.left ≤ 24 ∧ (h.on = true ∨ h.left = 0) := by
 unfold hOk; simp [and_assoc]
theorem hnd_of_good {t : Txn} (h : goodT t = true) : (0 ≤ t.h0.left ∧ t.h0.left ≤ 24) ∧ (0 ≤ t.h1.left ∧ t.h1.left ≤ 24) ∧ (0 ≤ t.h2.left ∧ t.h2.left ≤ 24) := by
 have no : ∀ {x : Bool}, x ≠ false → x = true := fun {x} hx => by cases x; exact absurd rfl hx; rfl
 have a0 := (hOk_iff' _).1 (no fun hf => by rw [notGood' (.inr (.inr (.inr (.inr (.inr (.inl hf))))))] at h; cases h)
 have a1 := (hOk_iff' _).1 (no fun hf => by rw [notGood' (.inr (.inr (.inr (.inr (.inr (.inr (.inl hf)))))))] at h; cases h)
 have a2 := (hOk_iff' _).1 (no fun hf => by rw [notGood' (.inr (.inr (.inr (.inr (.inr (.inr (.inr hf)))))))] at h; cases h)
 exact ⟨⟨a0.1, a0.2.1⟩, ⟨a1.1, a1.2.1⟩, a2.1, a2.2.1⟩
theorem apart_iff2 (t : Txn) : apart t = true ↔ (∀ b, inI t.rev b = true → hasB t.mt b = false ∧ hasB t.dt b = false) ∧ (∀ b, hasB t.mt b = true → hasB t.dt b = false) := by
 unfold apart
 rw [Bool.and_eq_true, List.all_eq_true, List.all_eq_true]
 constructor
 ·rintro ⟨h1, h2⟩
  refine ⟨fun b hb => ?_, fun b hb => ?_⟩
  ·have := h1 b (inI_iff.1 hb)
   simpa using this
  ·obtain ⟨c, hc, rfl⟩ := hasB_iff.1 hb
   have := h2 c hc
   simpa using this
 ·rintro ⟨h1, h2⟩
  refine ⟨fun b hb => ?_, fun c hc => ?_⟩
  ·obtain ⟨a1, a2⟩ := h1 b (inI_iff.2 hb)
   simp [a1, a2]
  ·simp [h2 c.block (hasB_iff.2 ⟨c, hc, rfl⟩)]
structure GoodT (t : Txn) : Prop where
 seq : 1 ≤ t.seq ∧ t.seq ≤ 2147483647
 mt : copiesB t.mt = true
 dt : copiesB t.dt = true
 rev : rise t.rev = true
 ap : (∀ b, inI t.rev b = true → hasB t.mt b = false ∧ hasB t.dt b = false) ∧ (∀ b, hasB t.mt b = true → hasB t.dt b = false)
 h0 : hOk t.h0 = true
 h1 : hOk t.h1 = true
 h2 : hOk t.h2 = true
theorem goodT_of {t : Txn} : goodT t = true ↔ GoodT t := by
 rw [goodT_iff]
 constructor
 ·rintro ⟨a, b, c, d, e, f, g, h⟩
  exact ⟨of_decide_eq_true a, b, c, d, (apart_iff2 t).1 e, f, g, h⟩
 ·rintro ⟨a, b, c, d, e, f, g, h⟩
  exact ⟨decide_eq_true a, b, c, d, (apart_iff2 t).2 e, f, g, h⟩
def askN (t : Txn) : Int := (t.mt.length : Int) + t.rev.length + t.h0.left + t.h1.left + t.h2.left
theorem lens {t : Txn} (g : GoodT t) : t.mt.length ≤ 12 ∧ t.dt.length ≤ 12 ∧ t.rev.length ≤ 12 := ⟨copies_len g.mt, copies_len g.dt, rise_len g.rev⟩
theorem hnds_bd {t : Txn} (g : GoodT t) : (0 ≤ t.h0.left ∧ t.h0.left ≤ 24) ∧ (0 ≤ t.h1.left ∧ t.h1.left ≤ 24) ∧ (0 ≤ t.h2.left ∧ t.h2.left ≤ 24) := hnd_of_good (goodT_of.2 g)
theorem need_most {t : Txn} (g : GoodT t) : needN t.mt.length t.rev.length ≤ mostN (askN t) ∧ needE t.mt.length t.rev.length = 0 := by
 obtain ⟨a, _, b⟩ := lens g
 obtain ⟨h0, h1, h2⟩ := hnds_bd g
 have e : needE t.mt.length t.rev.length = 0 := by unfold needE; rw [if_neg (by omega)]
 refine ⟨?_, e⟩
 unfold needN
 rw [if_pos e]
 unfold mostN clamp24 partsOf askN
 omega
def isEsc (s : ByteArray) : Bool := decide (s.data.toList.take 4 = magic)
def escS (s : ByteArray) : ByteArray := if isEsc s then str ([0, 0, 0, 0] ++ s.data.toList.drop 4) else s
def unescS (s : ByteArray) (e : Bool) : ByteArray := if e = true ∧ 4 ≤ s.size then str (magic ++ s.data.toList.drop 4) else s
theorem ba_len (s : ByteArray) : s.data.toList.length = s.size := by rw [Array.length_toList]; rfl
theorem isEsc_len {s : ByteArray} (h : isEsc s = true) : 4 ≤ s.size := by
 have h := of_decide_eq_true h
 have := congrArg List.length h
 rw [List.length_take, ba_len] at this
 have h4 : magic.length = 4 := rfl
 omega
def takeTags : List Tag → List ByteArray → List Cpy → Option (List Cpy × List ByteArray)
 | [], r, mt => some (mt, r)
 | _ :: _, [], _ => none
 | g :: gs, s :: r, mt => takeTags gs r (mt ++ [⟨g.block, unescS s g.esc⟩])
def parseT (seq : Int) : Nat → List ByteArray → Txn → Option (Txn × List ByteArray)
 | 0, _, _ => none
 | _ + 1, [], _ => none
 | n + 1, s :: r, t =>
  if decE s = 0 ∧ (decM s).seq = seq then
   if (decM s).kind = 4 then some (t, r)
   else if (decM s).kind = 3 then parseT seq n r { t with rev := t.rev ++ (decM s).blocks }
   else if (decM s).kind = 2 then
    match takeTags (decM s).tags r t.mt with
    | some (mt, r') => parseT seq n r' { t with mt := mt }
    | none => none
   else none
  else none
theorem takeTags_len {gs : List Tag} {r r' : List ByteArray} {mt mt' : List Cpy} (h : takeTags gs r mt = some (mt', r')) : r'.length + gs.length = r.length ∧ mt'.length = mt.length + gs.length := by
 induction gs generalizing r mt with
 | nil =>
  simp only [takeTags, Option.some.injEq, Prod.mk.injEq] at h
  obtain ⟨rfl, rfl⟩ := h
  exact ⟨rfl, rfl⟩
 | cons g gs ih =>
  cases r with
  | nil => cases h
  | cons s r =>
   have := ih h
   simp only [List.length_cons, List.length_append, List.length_nil] at this ⊢
   omega
theorem parseT_len {seq : Int} {n : Nat} {r r' : List ByteArray} {t t' : Txn} (h : parseT seq n r t = some (t', r')) : r'.length < r.length := by
 induction n generalizing r t with
 | zero => cases h
 | succ n ih =>
  cases r with
  | nil => cases h
  | cons s r =>
   unfold parseT at h
   by_cases h1 : decE s = 0 ∧ (decM s).seq = seq
   ·rw [if_pos h1] at h
    by_cases h2 : (decM s).kind = 4
    ·rw [if_pos h2] at h
     simp only [Option.some.injEq, Prod.mk.injEq] at h
     rw [← h.2]
     exact Nat.lt_succ_self _
    ·rw [if_neg h2] at h
     by_cases h3 : (decM s).kind = 3
     ·rw [if_pos h3] at h
      have := ih h
      simp only [List.length_cons]; omega
     ·rw [if_neg h3] at h
      by_cases h4 : (decM s).kind = 2
      ·rw [if_pos h4] at h
       cases hm : takeTags (decM s).tags r t.mt with
       | none => rw [hm] at h; cases h
       | some p =>
        obtain ⟨mt, r2⟩ := p
        rw [hm] at h
        have h5 := takeTags_len hm
        have := ih h
        simp only [List.length_cons]; omega
      ·rw [if_neg h4] at h; cases h
   ·rw [if_neg h1] at h; cases h
theorem parseT_fuel {seq : Int} {n m : Nat} {r : List ByteArray} {t : Txn} (hn : r.length < n) (hm : r.length < m) : parseT seq n r t = parseT seq m r t := by
 induction n generalizing m r t with
 | zero => omega
 | succ n ih =>
  cases m with
  | zero => omega
  | succ m =>
   cases r with
   | nil => rfl
   | cons s r =>
    simp only [List.length_cons] at hn hm
    unfold parseT
    split
    ·split
     ·rfl
     ·split
      ·exact ih (by omega) (by omega)
      ·split
       ·cases hk : takeTags (decM s).tags r t.mt with
        | none => rfl
        | some p =>
         have h5 := takeTags_len hk
         exact ih (by omega) (by omega)
       ·rfl
    ·rfl
structure Fnd where
 txns : List Txn
 next : Int
 at_ : Int
def scanGo : Nat → List ByteArray → Int → List Txn × Int × List ByteArray
 | 0, r, n => ([], n, r)
 | k + 1, r, n =>
  if n < 2147483647 then
   match parseT n 25 r (txn0 n) with
   | some (t, r') => (t :: (scanGo k r' (n + 1)).1, (scanGo k r' (n + 1)).2)
   | none => ([], n, r)
  else ([], n, r)
def logL (d : Dsk) (a : Int) : List ByteArray := (List.range 24).map fun (i : Nat) => readD d (1 + (a + (i : Int)) % 24)
theorem logL_len (d : Dsk) (a : Int) : (logL d a).length = 24 := by simp [logL]
def scanE (d : Dsk) : Int := if readE d 0 = 0 then (if decE (readD d 0) = 0 ∧ (decM (readD d 0)).kind = 1 then 0 else 1) else 2
def scanF (d : Dsk) : Fnd :=
 if scanE d = 0 then
  ⟨(scanGo 25 (logL d (decM (readD d 0)).at_) (decM (readD d 0)).seq).1, (scanGo 25 (logL d (decM (readD d 0)).at_) (decM (readD d 0)).seq).2.1, ((decM (readD d 0)).at_ + (24 - ((scanGo 25 (logL d (decM (readD d 0)).at_) (decM (readD d 0)).seq).2.2.length : Int))) % 24⟩
 else ⟨[], 0, 0⟩
def sfx (d : Dsk) (A : Int) (r : List ByteArray) : Prop := r = (logL d A).drop (24 - r.length) ∧ r.length ≤ 24
theorem sfx_all (d : Dsk) (A : Int) : sfx d A (logL d A) := by
 unfold sfx
 rw [logL_len]
 exact ⟨rfl, Nat.le_refl _⟩
theorem sfx_cons {d : Dsk} {A : Int} {s : ByteArray} {r : List ByteArray} (h : sfx d A (s :: r)) : sfx d A r ∧ readD d (1 + (A + (24 - ((r.length + 1 : Nat) : Int))) % 24) = s ∧ r.length < 24 := by
 obtain ⟨h1, h2⟩ := h
 simp only [List.length_cons] at h1 h2
 have hlt : 24 - (r.length + 1) < (logL d A).length := by rw [logL_len]; omega
 rw [List.drop_eq_getElem_cons hlt] at h1
 simp only [List.cons.injEq] at h1
 refine ⟨⟨?_, by omega⟩, ?_, by omega⟩
 ·have := h1.2
  rw [show 24 - (r.length + 1) + 1 = 24 - r.length by omega] at this
  exact this
 ·rw [h1.1]
  simp only [logL, List.getElem_map, List.getElem_range]
  congr 3
  omega
theorem dec_bds {s : ByteArray} (h : decE s = 0) : (decM s).tags.length ≤ 10 ∧ (decM s).blocks.length ≤ 20 ∧ 0 ≤ (decM s).at_ ∧ (decM s).at_ < 24 ∧ 1 ≤ (decM s).seq ∧ (decM s).seq ≤ 2147483647 := by
 have hd : decOk s := by
  by_cases hd : decOk s
  ·exact hd
  ·rw [(dec_no hd).2] at h; cases h
 obtain ⟨e1, _, e2, _⟩ := dec_yes hd
 rw [e1]
 generalize rawM s = m at *
 have k1 : ¬ badKind m := fun hh => by rw [markE_kind hh] at e2; cases e2
 have k2 : ¬ badNum m := fun hh => by rw [markE_num k1 hh] at e2; cases e2
 have k3 : ¬ badForm m := fun hh => by rw [markE_form k1 k2 hh] at e2; cases e2
 have k4 : ¬ badLen m := fun hh => by rw [markE_len k1 k2 k3 hh] at e2; cases e2
 unfold badNum at k2
 unfold badLen at k4
 omega
theorem lastT_size (n : Int) : ∀ (ws : List Wr) (s : ByteArray), s.size ≤ 32 → ws.all wrOk = true → (lastT s n ws).size ≤ 32
 | [], s, h, _ => h
 | x :: ws, s, h, hw => by
  simp only [List.all_cons, Bool.and_eq_true] at hw
  have e : lastT s n (x :: ws) = lastT (if x.at_ = n then x.text else s) n ws := rfl
  rw [e]
  refine lastT_size n ws _ ?_ hw.2
  split
  ·have := hw.1
   unfold wrOk at this
   simp only [Bool.and_eq_true] at this
   have : x.text.size = 32 := of_decide_eq_true this.2
   omega
  ·exact h
theorem readD_size (d : Dsk) (n : Int) : (readD d n).size ≤ 32 := by
 unfold readD
 split
 ·rename_i h
  obtain ⟨h1, h2, h3, h4⟩ := (goodD_iff d).1 h.1
  refine lastT_size n _ _ ?_ h4
  unfold safeAt
  rw [List.getD_eq_getElem?_getD]
  cases hk : d.safe[n.toNat]? with
  | none => exact Nat.zero_le _
  | some s =>
   have := List.all_eq_true.1 h3 s (List.mem_of_getElem? hk)
   have : s.size = 32 := of_decide_eq_true this
   simp only [Option.getD_some]
   omega
 ·exact Nat.zero_le _
theorem logL_size (d : Dsk) (A : Int) : ∀ s ∈ logL d A, s.size ≤ 9223372036854775807 := by
 intro s hs
 unfold logL at hs
 obtain ⟨i, _, rfl⟩ := List.mem_map.1 hs
 have := readD_size d (1 + (A + (i : Int)) % 24)
 omega
theorem parseT_nil (seq : Int) (n : Nat) (t : Txn) : parseT seq n [] t = none := by cases n <;> rfl
theorem scanGo_fuel {n m : Nat} {r : List ByteArray} {x : Int} (hn : r.length < n) (hm : r.length < m) : scanGo n r x = scanGo m r x := by
 induction n generalizing m r x with
 | zero => omega
 | succ n ih =>
  cases m with
  | zero => omega
  | succ m =>
   unfold scanGo
   split
   ·cases hp : parseT x 25 r (txn0 x) with
    | none => rfl
    | some p =>
     obtain ⟨t, r'⟩ := p
     have hl := parseT_len hp
     have e : scanGo n r' (x + 1) = scanGo m r' (x + 1) := ih (by omega) (by omega)
     show (t :: (scanGo n r' (x + 1)).1, (scanGo n r' (x + 1)).2) = (t :: (scanGo m r' (x + 1)).1, (scanGo m r' (x + 1)).2)
     rw [e]
   ·rfl
theorem parseT_sfx {d : Dsk} {A : Int} {seq : Int} {n : Nat} {r r' : List ByteArray} {t t' : Txn} (h : parseT seq n r t = some (t', r')) (hs : sfx d A r) : sfx d A r' := by
 induction n generalizing r t with
 | zero => cases h
 | succ n ih =>
  cases r with
  | nil => cases h
  | cons s r =>
   obtain ⟨h1, _, _⟩ := sfx_cons hs
   have key : ∀ (gs : List Tag) (r1 r2 : List ByteArray) (m1 m2 : List Cpy), takeTags gs r1 m1 = some (m2, r2) → sfx d A r1 → sfx d A r2 := by
    intro gs
    induction gs with
    | nil =>
     intro r1 r2 m1 m2 hh h5
     simp only [takeTags, Option.some.injEq, Prod.mk.injEq] at hh
     rw [← hh.2]; exact h5
    | cons g gs ihg =>
     intro r1 r2 m1 m2 hh h5
     cases r1 with
     | nil => cases hh
     | cons s1 r1 => exact ihg _ _ _ _ hh (sfx_cons h5).1
   unfold parseT at h
   split at h
   ·split at h
    ·simp only [Option.some.injEq, Prod.mk.injEq] at h
     rw [← h.2]; exact h1
    ·split at h
     ·exact ih h h1
     ·split at h
      ·cases hm : takeTags (decM s).tags r t.mt with
       | none => rw [hm] at h; cases h
       | some p =>
        obtain ⟨mt, r2⟩ := p
        rw [hm] at h
        exact ih h (key _ _ _ _ _ hm h1)
      ·cases h
   ·cases h
theorem parseT_sub {seq : Int} {n : Nat} {r r' : List ByteArray} {t t' : Txn} (h : parseT seq n r t = some (t', r')) : ∀ s ∈ r', s ∈ r := by
 induction n generalizing r t with
 | zero => cases h
 | succ n ih =>
  cases r with
  | nil => cases h
  | cons s r =>
   have key : ∀ (gs : List Tag) (r1 r2 : List ByteArray) (m1 m2 : List Cpy), takeTags gs r1 m1 = some (m2, r2) → ∀ s ∈ r2, s ∈ r1 := by
    intro gs
    induction gs with
    | nil =>
     intro r1 r2 m1 m2 hh s hs
     simp only [takeTags, Option.some.injEq, Prod.mk.injEq] at hh
     rw [hh.2]; exact hs
    | cons g gs ihg =>
     intro r1 r2 m1 m2 hh s hs
     cases r1 with
     | nil => cases hh
     | cons s1 r1 => exact List.mem_cons_of_mem _ (ihg _ _ _ _ hh s hs)
   intro x hx
   unfold parseT at h
   split at h
   ·split at h
    ·simp only [Option.some.injEq, Prod.mk.injEq] at h
     rw [← h.2] at hx; exact List.mem_cons_of_mem _ hx
    ·split at h
     ·exact List.mem_cons_of_mem _ (ih h x hx)
     ·split at h
      ·cases hm : takeTags (decM s).tags r t.mt with
       | none => rw [hm] at h; cases h
       | some p =>
        obtain ⟨mt, r2⟩ := p
        rw [hm] at h
        exact List.mem_cons_of_mem _ (key _ _ _ _ _ hm x (ih h x hx))
      ·cases h
   ·cases h
theorem scanGo_step {r r' : List ByteArray} {x : Int} {t : Txn} (hx : x < 2147483647) (h : parseT x 25 r (txn0 x) = some (t, r')) :
    (scanGo (r.length + 1) r x).1 = t :: (scanGo (r'.length + 1) r' (x + 1)).1 ∧ (scanGo (r.length + 1) r x).2 = (scanGo (r'.length + 1) r' (x + 1)).2 := by
 have hl := parseT_len h
 have e : scanGo (r.length + 1) r x = (t :: (scanGo r.length r' (x + 1)).1, (scanGo r.length r' (x + 1)).2) := by
  show (if x < 2147483647 then _ else _) = _
  rw [if_pos hx, h]
 rw [e, scanGo_fuel (n := r.length) (m := r'.length + 1) (by omega) (by omega)]
 exact ⟨rfl, rfl⟩
theorem scanGo_stop {r : List ByteArray} {x : Int} (h : parseT x 25 r (txn0 x) = none) : scanGo (r.length + 1) r x = ([], x, r) := by
 show (if x < 2147483647 then _ else _) = _
 split
 ·rw [h]
 ·rfl
theorem scanGo_full {r : List ByteArray} {x : Int} (h : ¬ x < 2147483647) : scanGo (r.length + 1) r x = ([], x, r) := by
 show (if x < 2147483647 then _ else _) = _
 rw [if_neg h]
def flushL (s : List ByteArray) (ws : List Wr) : List ByteArray := ws.foldl (fun s x => s.set x.at_.toNat x.text) s
theorem flushL_step (s : List ByteArray) (ws : List Wr) {k : Nat} (hk : k < ws.length) : flushL s (ws.take (k + 1)) = (flushL s (ws.take k)).set ws[k].at_.toNat ws[k].text := by
 unfold flushL; rw [List.take_succ_eq_append_getElem hk, List.foldl_append]; rfl
theorem flushL_len (s : List ByteArray) (ws : List Wr) : (flushL s ws).length = s.length := by
 unfold flushL
 induction ws generalizing s with
 | nil => rfl
 | cons x ws ih => rw [List.foldl_cons, ih]; simp
theorem flushL_get (s : List ByteArray) (ws : List Wr) (hw : ws.all wrOk = true) (n : Nat) (hn : n < s.length) : (flushL s ws)[n]? = some (lastT s[n] n ws) := by
 induction ws generalizing s with
 | nil => simp [flushL, lastT, hn]
 | cons x ws ih =>
  rw [List.all_cons, Bool.and_eq_true] at hw
  have h0 : 0 ≤ x.at_ := by
   have := hw.1
   simp only [wrOk, Bool.and_eq_true, isAt, decide_eq_true_eq] at this
   exact this.1.1
  have hx := ih (s.set x.at_.toNat x.text) hw.2 (by simpa using hn)
  simp only [flushL, lastT, List.foldl_cons] at hx ⊢
  rw [hx, List.getElem_set]
  by_cases h : x.at_ = n
  ·rw [if_pos h, if_pos (by omega)]
  ·rw [if_neg h, if_neg (by omega)]
def flushD (d : Dsk) : Dsk := if goodD d = true then ⟨flushL d.safe d.writes, []⟩ else d
def flushE (d : Dsk) : Int := if goodD d = true then 0 else 2
theorem putE_zero {d : Dsk} {n : Int} {t : ByteArray} (h : putE d n t = 0) : goodD d = true ∧ isAt n = true ∧ t.size = 32 ∧ ¬ 200 ≤ d.writes.length := by
 unfold putE at h
 by_cases h1 : goodD d = true ∧ isAt n = true
 ·rw [if_neg (not_not_intro h1)] at h
  by_cases h2 : t.size = 32
  ·rw [if_neg (not_not_intro h2)] at h
   by_cases h3 : 200 ≤ d.writes.length
   ·rw [if_pos h3] at h; simp at h
   ·exact ⟨h1.1, h1.2, h2, h3⟩
  ·rw [if_pos h2] at h; simp at h
 ·rw [if_pos h1] at h; simp at h
theorem putE_one {d : Dsk} {n : Int} {t : ByteArray} (hg : goodD d = true) (ha : isAt n = true) (h32 : t.size = 32) (h200 : ¬ 200 ≤ d.writes.length) : putE d n t = 0 := by
 unfold putE; rw [if_neg (not_not_intro ⟨hg, ha⟩), if_neg (not_not_intro h32), if_neg h200]
theorem putD_one {d : Dsk} {n : Int} {t : ByteArray} (h : putE d n t = 0) : putD d n t = ⟨d.safe, d.writes ++ [⟨n, t⟩]⟩ := by unfold putD; rw [if_pos h]
theorem put_good {d : Dsk} {n : Int} {t : ByteArray} (h : putE d n t = 0) : goodD (putD d n t) = true := by
 obtain ⟨hg, ha, h32, h200⟩ := putE_zero h
 rw [putD_one h]
 obtain ⟨g1, g2, g3, g4⟩ := (goodD_iff d).1 hg
 refine (goodD_iff _).2 ⟨g1, by simp; omega, g3, ?_⟩
 simp only [List.all_append, g4, List.all_cons, List.all_nil, wrOk, ha, ok32, h32]
 decide
theorem put_read {d : Dsk} {n : Int} {t : ByteArray} (h : putE d n t = 0) : readD (putD d n t) n = t := by
 obtain ⟨hg, ha, h32, h200⟩ := putE_zero h
 unfold readD
 rw [if_pos ⟨put_good h, ha⟩, putD_one h, lastT_step, if_pos rfl]
theorem put_other {d : Dsk} {n m : Int} {t : ByteArray} (h : putE d n t = 0) (hm : m ≠ n) : readD (putD d n t) m = readD d m := by
 obtain ⟨hg, ha, h32, h200⟩ := putE_zero h
 have hp := put_good h
 unfold readD
 rw [hp, hg, putD_one h]
 simp only [lastT_step, safeAt]
 rw [if_neg (fun hh : n = m => hm hh.symm)]
def textsAt (d : Dsk) (k : Nat) : List ByteArray := afterL (d.safe.getD k ⟨#[]⟩) k d.writes
def drawAt (d : Dsk) (x : Nat) : Nat → Nat
 | 0 => x
 | k + 1 => drawAt d x k / (textsAt d k).length
def crashAt (d : Dsk) (x k : Nat) : ByteArray := (textsAt d k).getD (drawAt d x k % (textsAt d k).length) ⟨#[]⟩
def crashL (d : Dsk) (x k : Nat) : List ByteArray := (List.range k).map (crashAt d x)
def mixL (d : Dsk) (x k : Nat) : List ByteArray := crashL d x k ++ d.safe.drop k
def crashE (d : Dsk) (draw : Int) : Int := if goodD d = true ∧ 0 ≤ draw then 0 else 2
def crashD (d : Dsk) (draw : Int) : Dsk := if goodD d = true ∧ 0 ≤ draw then ⟨crashL d draw.toNat d.safe.length, []⟩ else d
theorem textsAt_eq (d : Dsk) {k : Nat} (hk : k < d.safe.length) : textsAt d k = afterL d.safe[k] k d.writes := by
 unfold textsAt; rw [List.getD_eq_getElem?_getD, List.getElem?_eq_getElem hk]; rfl
theorem textsAt_pos (d : Dsk) (k : Nat) : 0 < (textsAt d k).length := by simp [textsAt, afterL]
theorem textsAt_le (d : Dsk) (k : Nat) : (textsAt d k).length ≤ d.writes.length + 1 := afterL_len _ _ _
theorem drawAt_le (d : Dsk) (x k : Nat) : drawAt d x k ≤ x := by
 induction k with
 | zero => exact Nat.le_refl _
 | succ k ih => exact Nat.le_trans (Nat.div_le_self _ _) ih
theorem drawAt_succ (d : Dsk) (x k : Nat) : drawAt d x (k + 1) = drawAt d x k / (textsAt d k).length := rfl
theorem crashL_len (d : Dsk) (x k : Nat) : (crashL d x k).length = k := by simp [crashL]
theorem crashL_succ (d : Dsk) (x k : Nat) : crashL d x (k + 1) = crashL d x k ++ [crashAt d x k] := by simp [crashL, List.range_succ]
theorem mixL_zero (d : Dsk) (x : Nat) : mixL d x 0 = d.safe := by simp [mixL, crashL]
theorem mixL_len (d : Dsk) (x : Nat) {k : Nat} (hk : k ≤ d.safe.length) : (mixL d x k).length = d.safe.length := by simp [mixL, crashL]; omega
theorem mixL_full (d : Dsk) (x : Nat) : mixL d x d.safe.length = crashL d x d.safe.length := by simp [mixL]
theorem mixL_set (d : Dsk) (x : Nat) {k : Nat} (hk : k < d.safe.length) : (mixL d x k).set k (crashAt d x k) = mixL d x (k + 1) := by
 unfold mixL
 rw [List.set_append_right _ _ (by rw [crashL_len]; exact Nat.le_refl _), crashL_len, Nat.sub_self, List.drop_eq_getElem_cons hk, List.set_cons_zero, crashL_succ, List.append_assoc]
 rfl
theorem crashAt_mem (d : Dsk) (x k : Nat) : crashAt d x k ∈ textsAt d k := by
 unfold crashAt
 rw [List.getD_eq_getElem?_getD, List.getElem?_eq_getElem (Nat.mod_lt _ (textsAt_pos d k))]
 exact List.getElem_mem _
theorem crashAt_get (d : Dsk) (x k : Nat) (h : drawAt d x k % (textsAt d k).length < (textsAt d k).length) : (textsAt d k)[drawAt d x k % (textsAt d k).length] = crashAt d x k := by
 unfold crashAt
 rw [List.getD_eq_getElem?_getD, List.getElem?_eq_getElem h]; rfl
theorem texts_ok {d : Dsk} (hg : goodD d = true) {k : Nat} (hk : k < d.safe.length) : ∀ t ∈ textsAt d k, ok32 t = true := by
 obtain ⟨g1, g2, g3, g4⟩ := (goodD_iff d).1 hg
 intro t ht
 rw [textsAt_eq d hk, afterL] at ht
 rcases List.mem_cons.1 ht with rfl | ht
 ·exact List.all_eq_true.1 g3 _ (List.getElem_mem hk)
 ·obtain ⟨x, hx, rfl⟩ := List.mem_map.1 ht
  have := List.all_eq_true.1 g4 x (List.mem_filter.1 hx).1
  simp only [wrOk, Bool.and_eq_true] at this
  exact this.2
theorem crash_good {d : Dsk} {draw : Int} (h : crashE d draw = 0) : goodD (crashD d draw) = true := by
 have hc : goodD d = true ∧ 0 ≤ draw := by
  unfold crashE at h
  by_cases hh : goodD d = true ∧ 0 ≤ draw
  ·exact hh
  ·rw [if_neg hh] at h; cases h
 unfold crashD
 rw [if_pos hc]
 obtain ⟨g1, g2, g3, g4⟩ := (goodD_iff d).1 hc.1
 refine (goodD_iff _).2 ⟨by simpa [crashL] using g1, by simp, ?_, rfl⟩
 rw [List.all_eq_true]
 intro t ht
 obtain ⟨k, hk, rfl⟩ := List.mem_map.1 ht
 exact texts_ok hc.1 (List.mem_range.1 hk) _ (crashAt_mem d _ k)
structure Stp where
 kind : Int
 at_ : Int
 text : ByteArray
def stpC (x : Stp) : List Value := [.int .i64 x.kind, .int .i64 x.at_, .string x.text]
theorem stpC_flat : Flat stpC 3 := ⟨fun _ => rfl, fun _ u hu => by simp [stpC] at hu; rcases hu with rfl | rfl | rfl <;> rfl, by decide⟩
def flushS : Stp := ⟨2, 0, ⟨#[]⟩⟩
def wrS (at_ : Int) (s : ByteArray) : Stp := ⟨1, at_, s⟩
def tagC' (c : Cpy) : Tag := ⟨c.block, isEsc c.text⟩
def listM (seq : Int) (r : List Int) : Mrk := ⟨3, seq, 0, [], r⟩
def descM (seq : Int) (p : List Cpy) : Mrk := ⟨2, seq, 0, p.map tagC', []⟩
def comM (seq : Int) : Mrk := ⟨4, seq, 0, [], []⟩
def superM (seq a : Int) : Mrk := ⟨1, seq, a, [], []⟩
def partL (seq : Int) (p : List Cpy) : List ByteArray := if p = [] then [] else markS (descM seq p) :: p.map (fun c => escS c.text)
def revL (seq : Int) (r : List Int) : List ByteArray := if r = [] then [] else [markS (listM seq r)]
def bodyT (t : Txn) : List ByteArray := revL t.seq t.rev ++ (partL t.seq (t.mt.take 10) ++ partL t.seq (t.mt.drop 10))
def logT (t : Txn) : List ByteArray := bodyT t ++ [markS (comM t.seq)]
def dataS (t : Txn) : List Stp := t.dt.map (fun c => wrS (25 + c.block) c.text) ++ (if t.dt = [] then [] else [flushS])
def comN (t : Txn) : Int := needN t.mt.length t.rev.length
def comE (r : Ring) (t : Txn) : Int := if goodR r = false ∨ goodT t = false ∨ openB t = true then 2 else takeE r (comN t)
def comR (r : Ring) (t : Txn) : Ring := if comE r t = 0 then takeR r (comN t) else r
def atW (p : Int) (s : ByteArray) : Stp := wrS (1 + p) s
def comL (r : Ring) (t : Txn) : List Stp :=
 if comE r t = 0 then
  dataS t ++ (List.zipWith atW (places r.head (bodyT t).length) (bodyT t) ++ ((if bodyT t = [] then [] else [flushS]) ++ [atW ((r.head + (bodyT t).length) % 24) (markS (comM t.seq)), flushS]))
 else []
theorem partL_len (seq : Int) (p : List Cpy) : (partL seq p).length = if p = [] then 0 else p.length + 1 := by
 unfold partL; split <;> simp
theorem bodyT_len {t : Txn} (g : GoodT t) : ((bodyT t).length : Int) + 1 = comN t := by
 obtain ⟨a, _, b⟩ := lens g
 have e : needE t.mt.length t.rev.length = 0 := (need_most g).2
 unfold bodyT comN needN
 rw [if_pos e, List.length_append, List.length_append, partL_len, partL_len]
 unfold revL partsOf
 have h1 : (t.mt.take 10 = []) ↔ t.mt.length = 0 := by rw [← List.length_eq_zero_iff, List.length_take]; omega
 have h2 : (t.mt.drop 10 = []) ↔ t.mt.length ≤ 10 := by rw [← List.length_eq_zero_iff, List.length_drop]; omega
 have h3 : (t.rev = []) ↔ t.rev.length = 0 := List.length_eq_zero_iff.symm
 by_cases c1 : t.mt.length = 0
 ·rw [if_pos (h1.2 c1), if_pos (h2.2 (by omega))]
  by_cases c3 : t.rev.length = 0
  ·rw [if_pos (h3.2 c3)]; simp; omega
  ·rw [if_neg (fun h => c3 (h3.1 h))]; simp; omega
 ·rw [if_neg (fun h => c1 (h1.1 h))]
  by_cases c2 : t.mt.length ≤ 10
  ·rw [if_pos (h2.2 c2), List.length_take]
   by_cases c3 : t.rev.length = 0
   ·rw [if_pos (h3.2 c3)]; simp; omega
   ·rw [if_neg (fun h => c3 (h3.1 h))]; simp; omega
  ·rw [if_neg (fun h => c2 (h2.1 h)), List.length_take, List.length_drop]
   by_cases c3 : t.rev.length = 0
   ·rw [if_pos (h3.2 c3)]; simp; omega
   ·rw [if_neg (fun h => c3 (h3.1 h))]; simp; omega
def goS (c : Cpy) : Stp := wrS (25 + c.block) c.text
def homeS (l : List Cpy) : List Stp := l.map (fun c => wrS (25 + c.block) c.text) ++ (if l = [] then [] else [flushS])
def cpyOk (c : Cpy) : Bool := isBlk c.block && ok32 c.text
def checkE (l : List Cpy) (a seq : Int) : Int := if markE (superM seq a) ≠ 0 then markE (superM seq a) else if l.all cpyOk = true then 0 else 1
def stepD (d : Dsk) (s : Stp) : Dsk := if s.kind = 2 then flushD d else putD d s.at_ s.text
def stepE (d : Dsk) (s : Stp) : Int := if s.kind = 2 then flushE d else putE d s.at_ s.text
def runD (d : Dsk) (l : List Stp) : Dsk := l.foldl stepD d
theorem runD_nil (d : Dsk) : runD d [] = d := rfl
theorem runD_cons (d : Dsk) (s : Stp) (l : List Stp) : runD d (s :: l) = runD (stepD d s) l := rfl
theorem runD_append (d : Dsk) (l m : List Stp) : runD d (l ++ m) = runD (runD d l) m := by simp [runD]
end Wb
namespace Go.Proofs.YtjhmfljlclajnacDoor
open Go.RowKit Wb
set_option maxRecDepth 100000
set_option maxHeartbeats 4000000
theorem disk_at (n : Int) (w : World) : Calls Tryd.prog 29 #[.int .i64 n] w fun e w' => e = .returned (.bool (isAt n)) ∧ w = w' := by
 by_cases h0 : 0 ≤ n
 ·by_cases h1 : n < 37
  ·have hv : isAt n = true := decide_eq_true ⟨h0, h1⟩
   rw [hv]
   go_enter Tryd.func29, Tryd.ntmps29
   go_wp2
   go_ret
   exact ⟨rfl, rfl⟩
  ·have hv : isAt n = false := decide_eq_false fun hh => h1 hh.2
   rw [hv]
   go_enter Tryd.func29, Tryd.ntmps29
   go_wp2
   go_ret
   exact ⟨rfl, rfl⟩
 ·have hv : isAt n = false := decide_eq_false fun hh => h0 hh.1
  rw [hv]
  go_enter Tryd.func29, Tryd.ntmps29
  go_wp2
  go_ret
  exact ⟨rfl, rfl⟩
theorem disk_Good1 (s : ByteArray) (w : World) : Calls Tryd.prog 41 #[.string s] w fun e w' => e = .returned (.bool (!ok32 s)) ∧ w = w' := by
 by_cases h0 : s.size = 32
 ·have hv : ok32 s = true := decide_eq_true h0
  rw [hv]
  have h1 : ((s.size : Int) != 32) = false := by rw [h0]; rfl
  go_enter Tryd.func41, Tryd.ntmps41
  go_wp2
  go_ret
  exact ⟨rfl, rfl⟩
 ·have hv : ok32 s = false := decide_eq_false h0
  rw [hv]
  have h1 : ((s.size : Int) != 32) = true := bne_iff_ne.2 (by omega)
  go_enter Tryd.func41, Tryd.ntmps41
  go_wp2
  go_ret
  exact ⟨rfl, rfl⟩
theorem slices_IndexFunc (v : Value) (xs : List ByteArray) (w : World) (hx : RL strC w v xs) (hn : xs.length ≤ 8796093022208) :
    Calls Tryd.prog 57 #[v, .func (.func 41) #[] #[]] w fun e w' => (∃ r : Int, e = .returned (.int .i64 r) ∧ idxIs (xs.all ok32) r) ∧ w = w' := by
 obtain ⟨a, cap, rfl, c1, c2⟩ := hx.form
 have hno := fun k (hk : k < xs.length) (hp : ok32 xs[k] = false) => all_no hk hp
 have hful := fun k (hk : k ≤ xs.length) (hn : ¬ k < xs.length) (hp : (xs.take k).all ok32 = true) => all_full hk hn hp
 generalize xs.all ok32 = ai at *
 replace hno := hid hno
 replace hful := hid hful
 go_enter Tryd.func57, Tryd.ntmps57
 go_wp2
 go_loop [5, 8] (fun _ i => ∃ k : Nat, k ≤ xs.length ∧ i = .int .i64 k ∧ Hid ((xs.take k).all ok32 = true)) (fun _ i => xs.length - (intOf i).toNat)
 case atStart => exact ⟨0, Nat.zero_le _, rfl, rfl⟩
 case round =>
  obtain ⟨k, hk, rfl, hall⟩ := hrel
  by_cases hlt : k < xs.length
  ·obtain ⟨b, off, rfl, d0⟩ := RL.at1 (fun x => .string x) (fun _ => rfl) hx hlt
   have hG := fun w => disk_Good1 xs[k] w
   cases hb : ok32 xs[k]
   ·rw [hb] at hG
    obtain rfl := hno.out k hlt hb
    replace hG := hid hG
    clear hall hb
    generalize xs[k] = x at *
    go_wp2_with (go_at_call 41; refine (hG.out _).mono ?_; rintro e w1 ⟨rfl, rfl⟩)
    go_ret
    exact ⟨⟨_, rfl, Int.natCast_nonneg _⟩, rfl⟩
   ·rw [hb] at hG
    have hs := hid (all_step hlt hall.out hb)
    replace hG := hid hG
    clear hall hb
    generalize xs[k] = x at *
    go_wp2_with (go_at_call 41; refine (hG.out _).mono ?_; rintro e w1 ⟨rfl, rfl⟩)
    go_round
    case rel => exact ⟨k + 1, by omega, by go_num, hs.out⟩
    case measure => simp [intOf]; omega
  ·obtain rfl := hful.out k hk hlt hall.out
   clear hall
   go_wp2
   go_ret
   exact ⟨⟨_, rfl, rfl⟩, rfl⟩
theorem slices_ContainsFunc (v : Value) (xs : List ByteArray) (w : World) (hx : RL strC w v xs) (hn : xs.length ≤ 8796093022208) :
    Calls Tryd.prog 40 #[v, .func (.func 41) #[] #[]] w fun e w' => e = .returned (.bool (!xs.all ok32)) ∧ w = w' := by
 have hI := slices_IndexFunc v xs w hx hn
 obtain ⟨a, cap, rfl, c1, c2⟩ := hx.form
 clear hx
 cases hb : xs.all ok32
 ·rw [hb] at hI
  replace hI := hid hI
  go_enter Tryd.func40, Tryd.ntmps40
  go_wp2_with (go_at_call 57; refine hI.out.mono ?_; rintro e w1 ⟨⟨r, rfl, hr⟩, rfl⟩; replace hr : 0 ≤ r := hr)
  go_ret
  exact ⟨rfl, rfl⟩
 ·rw [hb] at hI
  replace hI := hid hI
  go_enter Tryd.func40, Tryd.ntmps40
  go_wp2_with (go_at_call 57; refine hI.out.mono ?_; rintro e w1 ⟨⟨r, rfl, hr⟩, rfl⟩; obtain rfl : r = -1 := hr)
  go_ret
  exact ⟨rfl, rfl⟩
theorem disk_Good (d : Dsk) (v : Value) (w : World) (hd : RDisk w v d) :
    Calls Tryd.prog 20 #[v] w fun e w' => e = .returned (.bool (goodD d)) ∧ Below w.heap.size w w' := by
 obtain ⟨vs, vw, rfl, hs, hw, n1, n2⟩ := hd
 obtain ⟨safe, writes⟩ := d
 dsimp only at *
 have hC := fun v w (hx : RL strC w v safe) => slices_ContainsFunc v safe w hx n1
 have hgi := goodD_iff ⟨safe, writes⟩
 dsimp only at hgi
 have hno : (¬ (safe.length = 37 ∧ writes.length ≤ 200 ∧ safe.all ok32 = true ∧ writes.all wrOk = true)) → goodD ⟨safe, writes⟩ = false := fun hh => by
  rw [← Bool.not_eq_true]; exact fun h2 => hh (hgi.1 h2)
 have hyes := hgi.2
 clear hgi
 generalize goodD ⟨safe, writes⟩ = g at *
 replace hno := hid hno
 replace hyes := hid hyes
 obtain ⟨a, cap, rfl, _⟩ := hs.form
 obtain ⟨b, bcap, rfl, _⟩ := hw.form
 replace hs := hid hs
 replace hw := hid hw
 have hC0 := fun (hb : safe.all ok32 = true) => hC
 by_cases h37 : safe.length ≠ 37
 ·obtain rfl := hno.out (fun hh => h37 hh.1)
  have e1 : ((safe.length : Int) != 37) = true := bne_iff_ne.2 (by omega)
  clear hC hC0
  go_enter Tryd.func20, Tryd.ntmps20
  go_wp2
  go_ret
  exact ⟨rfl, by exact Zlo⟩
 replace h37 := Decidable.not_not.1 h37
 have e1 : ((safe.length : Int) != 37) = false := by rw [h37]; rfl
 by_cases h200 : ¬ writes.length ≤ 200
 ·obtain rfl := hno.out (fun hh => h200 hh.2.1)
  clear hC hC0
  go_enter Tryd.func20, Tryd.ntmps20
  go_wp2
  go_ret
  exact ⟨rfl, by exact Zlo⟩
 replace h200 := Decidable.not_not.1 h200
 clear hC0
 replace hC := hid hC
 replace h37 := hid h37
 have kb : Blk (w.alloc (.cells #[.slice a safe.length cap, .slice b writes.length bcap] 25)) w.heap.size #[.slice a safe.length cap, .slice b writes.length bcap] 25 := Blk.new w _ _
 have nf : 0 < w.heap.size + 1 := by omega
 go_enter Tryd.func20, Tryd.ntmps20
 go_wp2
 go_loopw [4, 18] (fun _ i wr => ∃ k : Nat, k ≤ writes.length ∧ i = .int .i64 k ∧ Hid ((writes.take k).all wrOk = true) ∧ Blk wr w.heap.size #[.slice a safe.length cap, .slice b writes.length bcap] 25 ∧ Below w.heap.size w wr) (fun _ i _ => writes.length - (intOf i).toNat)
 case atStart => exact ⟨0, Nat.zero_le _, rfl, rfl, kb, by exact Zlo⟩
 case round =>
  obtain ⟨k, hk, rfl, hall, kb, hnx⟩ := hrel
  have lt0 := kb.lt
  by_cases hlt : k < writes.length
  ·obtain ⟨b, off, rfl, d0, d1⟩ := RL.at2 (fun x => .int .i64 x.at_) (fun x => .string x.text) (fun _ => rfl) (hw.out.below hnx) hlt
   have lt1 := World.block_lt_of_cell? _ _ d0
   dsimp only at lt1
   have hA := fun w => disk_at writes[k].at_ w
   by_cases ha : isAt writes[k].at_ = true
   ·rw [ha] at hA
    replace hA := hid hA
    by_cases ht : ok32 writes[k].text = true
    ·have hst := hid (all_step hlt hall.out (by unfold wrOk; rw [ha, ht]; rfl))
     have e2 : ((writes[k].text.size : Int) != 32) = false := by rw [of_decide_eq_true ht]; rfl
     clear ha ht hall hno hyes
     generalize writes[k] = x at *
     go_wp2_with (go_at_call 29; refine (hA.out _).mono ?_; rintro e w1 ⟨rfl, rfl⟩)
     go_roundw
     case rel => exact ⟨k + 1, by omega, by go_num, hst, kb.alloc _, allocB hnx (by omega) _⟩
     case measure => simp [intOf]; omega
    ·obtain rfl := hno.out (fun hh => by
       have := all_no hlt (p := wrOk) (by unfold wrOk; rw [ha, Bool.not_eq_true _ |>.mp ht]; rfl)
       rw [this] at hh; exact Bool.noConfusion hh.2.2.2)
     have e2 : ((writes[k].text.size : Int) != 32) = true := bne_iff_ne.2 (fun hh => ht (decide_eq_true (by omega)))
     clear ha ht hall hno hyes
     generalize writes[k] = x at *
     go_wp2_with (go_at_call 29; refine (hA.out _).mono ?_; rintro e w1 ⟨rfl, rfl⟩)
     go_ret
     exact ⟨rfl, allocB hnx (by omega) _⟩
   ·obtain rfl := hno.out (fun hh => by
      have := all_no hlt (p := wrOk) (by unfold wrOk; rw [Bool.not_eq_true _ |>.mp ha]; rfl)
      rw [this] at hh; exact Bool.noConfusion hh.2.2.2)
    rw [Bool.not_eq_true _ |>.mp ha] at hA
    replace hA := hid hA
    clear ha hall hno hyes
    generalize writes[k] = x at *
    go_wp2_with (go_at_call 29; refine (hA.out _).mono ?_; rintro e w1 ⟨rfl, rfl⟩)
    go_ret
    exact ⟨rfl, allocB hnx (by omega) _⟩
  ·have hf := hid (all_full hk hlt hall.out)
   have c0 := kb.cell 0
   simp only [Zga, Zgb, Zgc] at c0
   clear hall
   cases hb : safe.all ok32
   ·obtain rfl := hno.out (fun hh => by rw [hb] at hh; exact Bool.noConfusion hh.2.2.1)
    rw [hb] at hC
    clear hno hyes hb
    go_wp2_with (go_at_call 40; refine (hC.out _ _ (hs.out.below hnx)).mono ?_; rintro e w1 ⟨rfl, rfl⟩)
    go_ret
    exact ⟨rfl, hnx⟩
   ·obtain rfl := hyes.out ⟨h37.out, h200, hb, hf.out⟩
    rw [hb] at hC
    clear hno hyes hb
    go_wp2_with (go_at_call 40; refine (hC.out _ _ (hs.out.below hnx)).mono ?_; rintro e w1 ⟨rfl, rfl⟩)
    go_ret
    exact ⟨rfl, hnx⟩
theorem elemStr : Elem Tryd.prog 22 9 1 16 := Elem.mk' (z := .string ⟨#[]⟩) Tryd.underlying22 (by kernel_rfl) rfl
theorem elemWr : Elem Tryd.prog 23 66 2 24 := Elem.mk' (z := .agg #[.int .i64 0, .string ⟨#[]⟩]) Tryd.underlying23 (by kernel_rfl) rfl
theorem clone_Writes (l : List Wr) (v : Value) (w : World) (hl : RL wrC w v l) (hn : l.length ≤ 5864062014805) :
    Calls Tryd.prog 49 #[v] w fun e w' => ∃ v', e = .returned v' ∧ Wb.Own wrC w.heap.size 66 2 w' v' l ∧ Below w.heap.size w w' := by
 obtain ⟨a, cap, rfl, c1, c2⟩ := hl.form
 have q24 : ∀ (w : World) (a : Option Addr) (n c n' c' : Nat), (binOp .eql 23 (.slice a n c) (.slice none n' c')).run Tryd.prog w = .ok (.bool a.isNone) w := fun w a n c n' c' => Lib.run_eql_slice_nil w _ _ a n c n' c' Tryd.underlying23
 cases a with
 | none =>
  have h0 : l = [] := by
   obtain ⟨a', cap', hv, _, _, h3⟩ := hl
   rcases h3 with h3 | ⟨b, off, ha, _⟩
   ·cases l with
    | nil => rfl
    | cons x l => simp [wrC] at h3
   ·simp only [Value.slice.injEq] at hv
    rw [ha] at hv
    exact absurd hv.1 (by simp)
  subst h0
  go_enter Tryd.func49, Tryd.ntmps49
  go_wp2
  go_ret
  exact ⟨_, rfl, Own.nil _ _ _ _ _, by exact Zlo⟩
 | some a =>
  replace hl := hid hl
  go_enter Tryd.func49, Tryd.ntmps49
  go_wp2_with (at_builtin; go_loud (refine wpList_app rfl _ _ _ rfl w.heap.size _ 2 24 wrC_flat elemWr (Own.lit wrC_flat w.heap.size _ w [] (Nat.le_refl _) (Nat.zero_le _) rfl rfl rfl) rfl l (hl.out.below (by exact Zlo)) rfl ?k1 ?k2 ?k3 ?k4))
  all_goals try (case k1 => simp; omega)
  all_goals try (case k2 => simp; omega)
  all_goals try (case k3 => simp)
  case k4 =>
   intro v7 w7 hown7 hgrow
   have hb : Below w.heap.size w w7 := (allocB (Below.refl _ _) (Nat.le_refl _) _).grown hgrow (by simp) (fun k hk => by simp [Value.ownBlock] at hk; omega)
   go_wp2
   go_ret
   exact ⟨_, rfl, hown7, hb⟩
theorem clone_Strings (l : List ByteArray) (v : Value) (w : World) (hl : RL strC w v l) (hn : l.length ≤ 8796093022208) :
    Calls Tryd.prog 21 #[v] w fun e w' => ∃ v', e = .returned v' ∧ Wb.Own strC w.heap.size 9 1 w' v' l ∧ Below w.heap.size w w' := by
 obtain ⟨a, cap, rfl, c1, c2⟩ := hl.form
 have q24 : ∀ (w : World) (a : Option Addr) (n c n' c' : Nat), (binOp .eql 22 (.slice a n c) (.slice none n' c')).run Tryd.prog w = .ok (.bool a.isNone) w := fun w a n c n' c' => Lib.run_eql_slice_nil w _ _ a n c n' c' Tryd.underlying22
 cases a with
 | none =>
  have h0 : l = [] := by
   obtain ⟨a', cap', hv, _, _, h3⟩ := hl
   rcases h3 with h3 | ⟨b, off, ha, _⟩
   ·cases l with
    | nil => rfl
    | cons x l => simp [strC] at h3
   ·simp only [Value.slice.injEq] at hv
    rw [ha] at hv
    exact absurd hv.1 (by simp)
  subst h0
  go_enter Tryd.func21, Tryd.ntmps21
  go_wp2
  go_ret
  exact ⟨_, rfl, Own.nil _ _ _ _ _, by exact Zlo⟩
 | some a =>
  replace hl := hid hl
  go_enter Tryd.func21, Tryd.ntmps21
  go_wp2_with (at_builtin; go_loud (refine wpList_app rfl _ _ _ rfl w.heap.size _ 1 16 strC_flat elemStr (Own.lit strC_flat w.heap.size _ w [] (Nat.le_refl _) (Nat.zero_le _) rfl rfl rfl) rfl l (hl.out.below (by exact Zlo)) rfl ?k1 ?k2 ?k3 ?k4))
  all_goals try (case k1 => simp; omega)
  all_goals try (case k2 => simp; omega)
  all_goals try (case k3 => simp)
  case k4 =>
   intro v7 w7 hown7 hgrow
   have hb : Below w.heap.size w w7 := (allocB (Below.refl _ _) (Nat.le_refl _) _).grown hgrow (by simp) (fun k hk => by simp [Value.ownBlock] at hk; omega)
   go_wp2
   go_ret
   exact ⟨_, rfl, hown7, hb⟩
end Go.Proofs.YtjhmfljlclajnacDoor
namespace Wb
open Go Go.RowKit
theorem Own.fresh {α : Type} {f : α → List Value} {base B : Nat} {e : TypeId} {c : Nat} {w : World} {v : Value} {l : List α} (h : Own f base e c w v l) (hB : B ≤ base) : ∀ b, vblk v = some b → B ≤ b := fun b hb => by
 obtain ⟨_, h2⟩ := h
 rcases h2 with ⟨rfl, _⟩ | ⟨g, cap, cur, rfl, hbg, _⟩
 ·cases hb
 ·cases hb; exact Nat.le_trans hB hbg
def Slot {α : Type} (f : α → List Value) (B : Nat) (w' : World) (v v' : Value) (l l' : List α) : Prop := (v' = v ∧ l' = l) ∨ (RL f w' v' l' ∧ ∀ b, vblk v' = some b → B ≤ b)
theorem Slot.same {α : Type} (f : α → List Value) (B : Nat) (w' : World) (v : Value) (l : List α) : Slot f B w' v v l l := .inl ⟨rfl, rfl⟩
theorem Slot.read {α : Type} {f : α → List Value} {B : Nat} {w' : World} {v v' : Value} {l l' : List α} (h : Slot f B w' v v' l l') (hr : RL f w' v l) : RL f w' v' l' := by
 rcases h with ⟨rfl, rfl⟩ | ⟨h, _⟩
 ·exact hr
 ·exact h
structure NewT (B : Nat) (w' : World) (vm vd vr vm' vd' vr' : Value) (t t' : Txn) : Prop where
 m : Slot cpyC B w' vm vm' t.mt t'.mt
 d : Slot cpyC B w' vd vd' t.dt t'.dt
 r : Slot intC B w' vr vr' t.rev t'.rev
theorem NewT.same (B : Nat) (w' : World) (vm vd vr : Value) (t : Txn) : NewT B w' vm vd vr vm vd vr t t := ⟨.same _ _ _ _ _, .same _ _ _ _ _, .same _ _ _ _ _⟩
section
variable {S : List Nat} {w0 w w' : World} {L : List Ent} {R : List Rd}
theorem St.lts (X : St S w0 w L R) : ∀ e ∈ L, e.g < w.heap.size := fun e he => (X.blk e he).lt
end
def NewD (B : Nat) (w' : World) (v v' : Value) (d d' : Dsk) : Prop :=
 ∃ vs vw vs' vw', v = .agg #[vs, vw] ∧ v' = .agg #[vs', vw'] ∧ Slot strC B w' vs vs' d.safe d'.safe ∧ Slot wrC B w' vw vw' d.writes d'.writes
theorem Own.slot {α : Type} {f : α → List Value} {base B : Nat} {e : TypeId} {c : Nat} {w : World} {v v0 : Value} {l l0 : List α} (h : Own f base e c w v l) (hB : B ≤ base) : Slot f B w v0 v l0 l := .inr ⟨h.reads, h.fresh hB⟩
theorem Slot.nil {α : Type} {f : α → List Value} {B : Nat} {w : World} {v0 : Value} {l0 : List α} : Slot f B w v0 (.slice none 0 0) l0 [] := .inr ⟨RL.nil _ _, fun b hb => by cases hb⟩
theorem RDisk.same {w w' : World} {v : Value} {d : Dsk} (h : RDisk w v d) (B : Nat) : NewD B w' v v d d := by
 obtain ⟨vs, vw, hv, _⟩ := h
 exact ⟨vs, vw, vs, vw, hv, hv, .same _ _ _ _ _, .same _ _ _ _ _⟩
end Wb
namespace Go.Proofs.YtjhmfljlclajnacDoor
open Go.RowKit Wb
set_option maxRecDepth 100000
set_option maxHeartbeats 1000000
theorem disk_Put_good (d : Dsk) (n : Int) (t : ByteArray) (v : Value) (w : World) (hd : RDisk w v d) (hg : goodD d = true) (ha : isAt n = true) (h32 : t.size = 32) (h200 : ¬ 200 ≤ d.writes.length) :
    Calls Tryd.prog 28 #[v, .int .i64 n, .string t] w fun e w' => ∃ v', e = .returned (.tuple #[v', .int .i64 0]) ∧ RDisk w' v' ⟨d.safe, d.writes ++ [⟨n, t⟩]⟩ ∧ NewD w.heap.size w' v v' d ⟨d.safe, d.writes ++ [⟨n, t⟩]⟩ ∧ Below w.heap.size w w' := by
 have hG := fun w (hh : RDisk w v d) => disk_Good d v w hh
 have hA := fun w => disk_at n w
 rw [hg] at hG
 rw [ha] at hA
 have e1 : ((t.size : Int) != 32) = false := by rw [h32]; rfl
 have hd2 := hd
 obtain ⟨vs, vw, rfl, hs, hw, n1, n2⟩ := hd
 obtain ⟨a, cap, rfl, ca1, ca2⟩ := hs.form
 obtain ⟨b, bcap, rfl, cb1, cb2⟩ := hw.form
 replace hd2 := hid hd2
 clear hg ha h32
 obtain ⟨safe, writes⟩ := d
 dsimp only at *
 have hC := fun v w (hh : RL wrC w v writes) => clone_Writes writes v w hh n2
 replace hG := hid hG
 replace hA := hid hA
 replace hC := hid hC
 replace hs := hid hs
 replace hw := hid hw
 go_enter Tryd.func28, Tryd.ntmps28
 go_wp2_with (first
  | (go_at_call 20; refine (hG.out _ (hd2.out.below (by exact Zlo))).mono ?_; rintro e w1 ⟨rfl, hb1⟩; obtain ⟨hbc, hbf⟩ := bcell hb1; have hbz := hb1.size; try simp only [World.size_alloc, World.size_setCell, World.size_drew] at hbz; have hz0 := Nat.lt_of_lt_of_le (n := w.heap.size) (by omega) hbz; have hz1 := Nat.lt_of_lt_of_le (n := w.heap.size + 1) (by omega) hbz)
  | (go_at_call 29; refine (hA.out _).mono ?_; rintro e w2 ⟨rfl, rfl⟩))
 have hnx : Below w.heap.size w w1 := by exact Zlo
 have k0 : Blk w1 w.heap.size #[.slice a safe.length cap, .slice b writes.length bcap] 25 := ((Blk.new w _ _).alloc _).step hb1
 have k1 : Blk w1 (w.heap.size + 1) #[.slice none 0 0, .slice none 0 0] 25 := (Blk.newAt (w := w.alloc _) (by simp)).step hb1
 have c0 := k0.cell 0
 have c1 := k0.cell 1
 simp only [Zga, Zgb, Zgc] at c0 c1
 have hw1 := hid (hw.out.below hnx)
 clear hb1 hbc hbf hw hd2
 go_region_held3 (fun w' => w'.cell? ⟨w.heap.size, 0, none⟩ = some (.slice a safe.length cap) ∧ w'.cell? ⟨w.heap.size, 1, none⟩ = some (.slice b writes.length bcap)) (first | exact ⟨by with_reducible assumption, by with_reducible assumption⟩ | go_keep) (first
  | (refine step_call 49 _ _ (by rfl) (by rfl) #[.slice b writes.length bcap] (by rfl) ⟨_, _, Tryd.func49, by kernel_rfl, rfl⟩ (hC.out _ _ (hw1.out.below (by exact Zlo))) ?_; rintro e w3 ⟨v3, rfl, hown3, hb3⟩; obtain ⟨a3, cap3, rfl⟩ := hown3.form; have hz3 : w1.heap.size ≤ w3.heap.size := (by have h := hb3.size; simp at h; omega); have k3 : Blk w3 (w.heap.size + 1) #[.slice none 0 0, .slice none 0 0] 25 := (by with_reducible (first | exact k1.drew.step hb3 | exact (k1.alloc _).drew.step hb3)); replace hown3 := hown3.mono (base' := w1.heap.size) (by simp); have hb13 : Below w.heap.size w w3 := (by with_reducible (first | exact hnx.drew.trans (hb3.mono (by simp; omega)) | exact (allocB hnx (by omega) _).drew.trans (hb3.mono (by simp; omega)))); have k03 : Blk w3 w.heap.size #[.slice a safe.length cap, .slice b writes.length bcap] 25 := (by with_reducible (first | exact k0.drew.step hb3 | exact (k0.alloc _).drew.step hb3)); have p0 := k03.cell 0; have p1 := k03.cell 1; simp only [Zga, Zgb, Zgc] at p0 p1; refine ⟨_, rfl, ?_⟩)
  | go_loud (refine step_app (by rfl) _ _ 23 (by rfl) w1.heap.size _ 2 24 wrC_flat elemWr (hown3.alloc _) (by rfl) [⟨n, t⟩] (RL.newN (f := wrC) _ _ _ [⟨n, t⟩] (by show 1 ≤ maxLen; decide)) (by rfl) (by (try simp); omega) (by (try simp); unfold maxLen; omega) (by (try simp); omega) ?_; intro v4 w4 hown4 hb4 _; obtain ⟨a4, cap4, rfl⟩ := hown4.form; have k4 := (k3.alloc _).below hb4 (by omega); have hb14 := (allocB hb13 (by omega) _).trans (hb4.mono (by omega)); have k04 := (k03.alloc _).below hb4 (by omega); have p2 := k04.cell 0; have p3 := k04.cell 1; simp only [Zga, Zgb, Zgc] at p2 p3; have f0 := k4.cell 0; have f1 := k4.cell 1; simp only [Zga, Zgb, Zgc] at f0 f1; have f2 := k4.free 0; have f3 := k4.free 1)
  | go_loud (refine step_app (by rfl) _ _ 23 (by rfl) w1.heap.size _ 2 24 wrC_flat elemWr hown3 (by rfl) [⟨n, t⟩] (RL.ofBlk (f := wrC) (g := w1.heap.size) [⟨n, t⟩] ((Blk.newAt (w := w1) (by simp)).drew.step hb3) (by show 1 ≤ maxLen; decide)) (by rfl) (by (try simp); omega) (by (try simp); unfold maxLen; omega) (by (try simp); omega) ?_; intro v4 w4 hown4 hb4 _; obtain ⟨a4, cap4, rfl⟩ := hown4.form; have k4 := k3.below hb4 (by omega); have hb14 := hb13.trans (hb4.mono (by omega)); have k04 := k03.below hb4 (by omega); have p2 := k04.cell 0; have p3 := k04.cell 1; simp only [Zga, Zgb, Zgc] at p2 p3; have f0 := k4.cell 0; have f1 := k4.cell 1; simp only [Zga, Zgb, Zgc] at f0 f1; have f2 := k4.free 0; have f3 := k4.free 1))
 all_goals
  go_wp2
  have e4 : (writes ++ [(⟨n, t⟩ : Wr)]).length = writes.length + 1 := by simp
  rw [e4] at hown4
  have l1 := k1.lt
  have hF : Below w.heap.size w ((w4.setCell ⟨w.heap.size + 1, 0, none⟩ (.slice a safe.length cap)).setCell ⟨w.heap.size + 1, 1, none⟩ (.slice a4 (writes.length + 1) cap4)) := (hb14.setCell (by simp) _).setCell (by simp) _
  refine bodyPost_ret (v := .tuple #[.agg #[.slice a safe.length cap, .slice a4 (writes.length + 1) cap4], .int .i64 0]) (by simp [results, Tryd.results28, go_sem, f0, f1]) rfl ⟨_, rfl, ⟨_, _, rfl, hs.out.below hF, ?_, n1, by simp; omega⟩, ⟨_, _, _, _, rfl, rfl, .same _ _ _ _ _, ?_⟩, hF⟩
  ·exact ((hown4.setCell (by simp; omega) _).setCell (by simp; omega) _).reads
  ·exact ((hown4.setCell (by simp; omega) _).setCell (by simp; omega) _).slot (by omega)
theorem disk_PutN (d : Dsk) (n : Int) (t : ByteArray) (v : Value) (w : World) (hd : RDisk w v d) :
    Calls Tryd.prog 28 #[v, .int .i64 n, .string t] w fun e w' => ∃ v', e = .returned (.tuple #[v', .int .i64 (putE d n t)]) ∧ RDisk w' v' (putD d n t) ∧ NewD w.heap.size w' v v' d (putD d n t) ∧ Below w.heap.size w w' := by
 have hG := fun w (hh : RDisk w v d) => disk_Good d v w hh
 have hA := fun w => disk_at n w
 have hd2 := hd
 obtain ⟨vs, vw, rfl, hs, hw, n1, n2⟩ := hd
 obtain ⟨a, cap, rfl, _⟩ := hs.form
 obtain ⟨b, bcap, rfl, _⟩ := hw.form
 replace hd2 := hid hd2
 by_cases hg : goodD d = true
 ·rw [hg] at hG
  by_cases ha : isAt n = true
  ·have hg0 := hg
   have ha0 := ha
   rw [ha] at hA
   have hgood : goodD d = true ∧ isAt n = true := ⟨hg, ha⟩
   by_cases h32 : t.size = 32
   ·have e1 : ((t.size : Int) != 32) = false := by rw [h32]; rfl
    by_cases h200 : 200 ≤ d.writes.length
    ·have he : putE d n t = 11 := by unfold putE; rw [if_neg (not_not_intro hgood), if_neg (not_not_intro h32), if_pos h200]
     have hv : putD d n t = d := by unfold putD; rw [he, if_neg (by decide)]
     rw [hv, he]
     clear ha hg hv he hs hw hgood h32
     replace hG := hid hG
     replace hA := hid hA
     go_enter Tryd.func28, Tryd.ntmps28
     go_wp2_with (first
      | (go_at_call 20; refine (hG.out _ (hd2.out.below (by exact Zlo))).mono ?_; rintro e w1 ⟨rfl, hb1⟩; obtain ⟨hbc, hbf⟩ := bcell hb1; have hbz := hb1.size; try simp only [World.size_alloc, World.size_setCell, World.size_drew] at hbz; have hz0 := Nat.lt_of_lt_of_le (n := w.heap.size) (by omega) hbz; have hz1 := Nat.lt_of_lt_of_le (n := w.heap.size + 1) (by omega) hbz)
      | (go_at_call 29; refine (hA.out _).mono ?_; rintro e w2 ⟨rfl, rfl⟩))
     exact bodyPost_ret (v := .tuple #[.agg #[.slice a d.safe.length cap, .slice b d.writes.length bcap], .int .i64 11]) (by simp [results, Tryd.results28, go_sem, hbc]) rfl ⟨_, rfl, hd2.out.below (by exact Zlo), hd2.out.same _, by exact Zlo⟩
    ·have he : putE d n t = 0 := by unfold putE; rw [if_neg (not_not_intro hgood), if_neg (not_not_intro h32), if_neg h200]
     have hv : putD d n t = ⟨d.safe, d.writes ++ [⟨n, t⟩]⟩ := by unfold putD; rw [if_pos he]
     rw [hv, he]
     clear ha hg hv he hgood
     exact disk_Put_good d n t _ w hd2.out hg0 ha0 h32 h200
   ·have e1 : ((t.size : Int) != 32) = true := bne_iff_ne.2 (by omega)
    have he : putE d n t = 1 := by unfold putE; rw [if_neg (not_not_intro hgood), if_pos h32]
    have hv : putD d n t = d := by unfold putD; rw [he, if_neg (by decide)]
    rw [hv, he]
    clear ha hg hv he hs hw hgood h32
    replace hG := hid hG
    replace hA := hid hA
    go_enter Tryd.func28, Tryd.ntmps28
    go_wp2_with (first
     | (go_at_call 20; refine (hG.out _ (hd2.out.below (by exact Zlo))).mono ?_; rintro e w1 ⟨rfl, hb1⟩; obtain ⟨hbc, hbf⟩ := bcell hb1; have hbz := hb1.size; try simp only [World.size_alloc, World.size_setCell, World.size_drew] at hbz; have hz0 := Nat.lt_of_lt_of_le (n := w.heap.size) (by omega) hbz; have hz1 := Nat.lt_of_lt_of_le (n := w.heap.size + 1) (by omega) hbz)
     | (go_at_call 29; refine (hA.out _).mono ?_; rintro e w2 ⟨rfl, rfl⟩))
    exact bodyPost_ret (v := .tuple #[.agg #[.slice a d.safe.length cap, .slice b d.writes.length bcap], .int .i64 1]) (by simp [results, Tryd.results28, go_sem, hbc]) rfl ⟨_, rfl, hd2.out.below (by exact Zlo), hd2.out.same _, by exact Zlo⟩
  ·have he : putE d n t = 2 := by unfold putE; rw [if_pos (fun hh => ha hh.2)]
   have hv : putD d n t = d := by unfold putD; rw [he, if_neg (by decide)]
   rw [hv, he]
   rw [Bool.not_eq_true _ |>.mp ha] at hA
   clear ha hg hv he
   replace hG := hid hG
   replace hA := hid hA
   replace hs := hid hs
   replace hw := hid hw
   go_enter Tryd.func28, Tryd.ntmps28
   go_wp2_with (first
    | (go_at_call 20; refine (hG.out _ (hd2.out.below (by exact Zlo))).mono ?_; rintro e w1 ⟨rfl, hb1⟩; obtain ⟨hbc, hbf⟩ := bcell hb1; have hbz := hb1.size; try simp only [World.size_alloc, World.size_setCell, World.size_drew] at hbz; have hz0 := Nat.lt_of_lt_of_le (n := w.heap.size) (by omega) hbz; have hz1 := Nat.lt_of_lt_of_le (n := w.heap.size + 1) (by omega) hbz)
    | (go_at_call 29; refine (hA.out _).mono ?_; rintro e w2 ⟨rfl, rfl⟩))
   exact bodyPost_ret (v := .tuple #[.agg #[.slice a d.safe.length cap, .slice b d.writes.length bcap], .int .i64 2]) (by simp [results, Tryd.results28, go_sem, hbc]) rfl ⟨_, rfl, hd2.out.below (by exact Zlo), hd2.out.same _, by exact Zlo⟩
 ·have he : putE d n t = 2 := by unfold putE; rw [if_pos (fun hh => hg hh.1)]
  have hv : putD d n t = d := by unfold putD; rw [he, if_neg (by decide)]
  rw [hv, he]
  rw [Bool.not_eq_true _ |>.mp hg] at hG
  clear hg hv he hs hw
  replace hG := hid hG
  go_enter Tryd.func28, Tryd.ntmps28
  go_wp2_with (go_at_call 20; refine (hG.out _ (hd2.out.below (by exact Zlo))).mono ?_; rintro e w1 ⟨rfl, hb1⟩; obtain ⟨hbc, hbf⟩ := bcell hb1; have hbz := hb1.size; try simp only [World.size_alloc, World.size_setCell, World.size_drew] at hbz; have hz0 := Nat.lt_of_lt_of_le (n := w.heap.size) (by omega) hbz; have hz1 := Nat.lt_of_lt_of_le (n := w.heap.size + 1) (by omega) hbz)
  exact bodyPost_ret (v := .tuple #[.agg #[.slice a d.safe.length cap, .slice b d.writes.length bcap], .int .i64 2]) (by simp [results, Tryd.results28, go_sem, hbc]) rfl ⟨_, rfl, hd2.out.below (by exact Zlo), hd2.out.same _, by exact Zlo⟩
theorem disk_Put (d : Dsk) (n : Int) (t : ByteArray) (v : Value) (w : World) (hd : RDisk w v d) :
    Calls Tryd.prog 28 #[v, .int .i64 n, .string t] w fun e w' => ∃ v', e = .returned (.tuple #[v', .int .i64 (putE d n t)]) ∧ RDisk w' v' (putD d n t) ∧ Below w.heap.size w w' :=
 (disk_PutN d n t v w hd).mono fun e w' ⟨v', h1, h2, _, h3⟩ => ⟨v', h1, h2, h3⟩
end Go.Proofs.YtjhmfljlclajnacDoor
namespace Wb
open Go Go.RowKit
theorem St.addRx {S : List Nat} {w0 w : World} {L : List Ent} {R : List Rd} (X : St S w0 w L R) {v : Value} {n : Nat} {cs : List Value} (hv : Sl w v n cs) (hn : ∀ e ∈ L, ∀ u ∈ cs, u ∉ e.cs) : St S w0 w L (⟨v, n, cs⟩ :: R) := by
 refine X.addR hv ?_
 obtain ⟨a, cap, hvv, _, _, h3⟩ := hv
 rcases h3 with h3 | ⟨b, off, ha, hc⟩
 ·exact .inl h3
 ·cases cs with
  | nil => exact .inl rfl
  | cons u r =>
   refine .inr fun b' hb e he heq => ?_
   rw [hvv, ha] at hb
   cases hb
   have h4 := hc 0 u rfl
   have h5 := X.cell (g := e.g) (cs := e.cs) (t := e.t) he off
   rw [Nat.add_zero] at h4
   have h6 : w.cell? ⟨e.g, off, none⟩ = some u := by rw [heq]; exact h4
   rw [h6] at h5
   exact hn e he u (by simp) (List.mem_of_getElem? h5.symm)
def noSl : Value → Bool
 | .slice _ _ _ => false
 | _ => true
theorem strC_noSl (l : List ByteArray) : ∀ u ∈ l.flatMap strC, noSl u = true := by
 intro u hu
 obtain ⟨x, _, hx⟩ := List.mem_flatMap.1 hu
 simp only [strC, List.mem_singleton] at hx
 subst hx; rfl
theorem wrC_noSl (l : List Wr) : ∀ u ∈ l.flatMap wrC, noSl u = true := by
 intro u hu
 obtain ⟨x, _, hx⟩ := List.mem_flatMap.1 hu
 simp only [wrC, List.mem_cons, List.not_mem_nil, or_false] at hx
 rcases hx with rfl | rfl <;> rfl
abbrev dskR (as_ : Option Addr) (cs : Nat) (aw : Option Addr) (cw : Nat) (d : Dsk) : List Rd := [Rd.of strC (.slice as_ d.safe.length cs) d.safe, Rd.of wrC (.slice aw d.writes.length cw) d.writes]
theorem RDisk.form {w : World} {v : Value} {d : Dsk} (h : RDisk w v d) : ∃ as_ cs aw cw, v = .agg #[.slice as_ d.safe.length cs, .slice aw d.writes.length cw] ∧ RL strC w (.slice as_ d.safe.length cs) d.safe ∧ RL wrC w (.slice aw d.writes.length cw) d.writes ∧ d.safe.length ≤ 8796093022208 ∧ d.writes.length ≤ 5864062014805 := by
 obtain ⟨vs, vw, rfl, h1, h2, h3, h4⟩ := h
 obtain ⟨as_, cs, rfl, _⟩ := h1.form
 obtain ⟨aw, cw, rfl, _⟩ := h2.form
 exact ⟨as_, cs, aw, cw, rfl, h1, h2, h3, h4⟩
theorem St.addDsk {S : List Nat} {w0 w : World} {L : List Ent} {R : List Rd} (X : St S w0 w L R) {as_ aw : Option Addr} {cs cw : Nat} {d : Dsk} (h1 : RL strC w (.slice as_ d.safe.length cs) d.safe) (h2 : RL wrC w (.slice aw d.writes.length cw) d.writes) (hn : ∀ e ∈ L, ∀ u ∈ e.cs, noSl u = false) :
    St S w0 w L (Rd.of strC (.slice as_ d.safe.length cs) d.safe :: Rd.of wrC (.slice aw d.writes.length cw) d.writes :: R) := by
 have X1 := X.addRx (v := .slice aw d.writes.length cw) (n := d.writes.length) (cs := d.writes.flatMap wrC) h2 (fun e he u hu hm => by
  have := hn e he u hm
  rw [wrC_noSl _ u hu] at this; cases this)
 exact X1.addRx (v := .slice as_ d.safe.length cs) (n := d.safe.length) (cs := d.safe.flatMap strC) h1 (fun e he u hu hm => by
  have := hn e he u hm
  rw [strC_noSl _ u hu] at this; cases this)
theorem St.dsk {S : List Nat} {w0 w : World} {L : List Ent} {R : List Rd} {as_ aw : Option Addr} {cs cw : Nat} {d : Dsk} (X : St S w0 w L (Rd.of strC (.slice as_ d.safe.length cs) d.safe :: Rd.of wrC (.slice aw d.writes.length cw) d.writes :: R)) (h3 : d.safe.length ≤ 8796093022208) (h4 : d.writes.length ≤ 5864062014805) :
    RDisk w (.agg #[.slice as_ d.safe.length cs, .slice aw d.writes.length cw]) d := ⟨_, _, rfl, X.r0, X.r1, h3, h4⟩
def noStr : Value → Bool
 | .string _ => false
 | _ => true
theorem St.addRy {S : List Nat} {w0 w : World} {L : List Ent} {R : List Rd} (X : St S w0 w L R) {v : Value} {n : Nat} {cs : List Value} (hv : Sl w v n cs) (k : Nat) (hk : cs = [] ∨ ∃ s, cs[k]? = some (.string s)) (hn : ∀ e ∈ L, ∀ u ∈ e.cs, noStr u = true) : St S w0 w L (⟨v, n, cs⟩ :: R) := by
 refine X.addR hv ?_
 obtain ⟨a, cap, hvv, _, _, h3⟩ := hv
 rcases h3 with h3 | ⟨b, off, ha, hc⟩
 ·exact .inl h3
 rcases hk with hk | ⟨s, hk⟩
 ·exact .inl hk
 ·refine .inr fun b' hb e he heq => ?_
  rw [hvv, ha] at hb
  cases hb
  have h4 := hc k _ hk
  have h5 := X.cell (g := e.g) (cs := e.cs) (t := e.t) he (off + k)
  have h6 : w.cell? ⟨e.g, off + k, none⟩ = some (.string s) := by rw [heq]; exact h4
  rw [h6] at h5
  have := hn e he _ (List.mem_of_getElem? h5.symm)
  cases this
theorem St.addDskS {S : List Nat} {w0 w : World} {L : List Ent} {R : List Rd} (X : St S w0 w L R) {as_ aw : Option Addr} {cs cw : Nat} {d : Dsk} (h1 : RL strC w (.slice as_ d.safe.length cs) d.safe) (h2 : RL wrC w (.slice aw d.writes.length cw) d.writes) (hn : ∀ e ∈ L, ∀ u ∈ e.cs, noStr u = true) :
    St S w0 w L (Rd.of strC (.slice as_ d.safe.length cs) d.safe :: Rd.of wrC (.slice aw d.writes.length cw) d.writes :: R) := by
 have X1 := X.addRy (v := .slice aw d.writes.length cw) (n := d.writes.length) (cs := d.writes.flatMap wrC) h2 1 (by
  cases d.writes with
  | nil => exact .inl rfl
  | cons x r => exact .inr ⟨x.text, rfl⟩) hn
 exact X1.addRy (v := .slice as_ d.safe.length cs) (n := d.safe.length) (cs := d.safe.flatMap strC) h1 0 (by
  cases d.safe with
  | nil => exact .inl rfl
  | cons x r => exact .inr ⟨x, rfl⟩) hn
end Wb
