/- Parts of the proof: IMap Ring6 OwnTy Scan TxnR CopyT Scan2 ScanP2 KLat KAli Rdt Crash ScanQ. -/
import Derived.Test.YtjhmfljlclajnacDoorUBase
import Derived.MapKept
import Derived.ChangeMaps5
import Derived.Carry
import Derived.Maps.OwnOps
import Derived.Test.YtjhmfljlclajnacDoorKSealWhole3
import Derived.Test.YtjhmfljlclajnacDoorURegCall
import Derived.Test.YtjhmfljlclajnacDoorKSealWhole0
import Derived.Test.YtjhmfljlclajnacDoorKSealWhole2
import Derived.Deep.QuietTactic
import Derived.Test.YtjhmfljlclajnacDoorUBytes
import Derived.Test.YtjhmfljlclajnacDoorChecked
import Derived.BigQuiet
import Derived.Test.YtjhmfljlclajnacDoorURegApp
import Derived.Test.YtjhmfljlclajnacDoorUDecA
import Derived.Deep.LoopGhost
import Derived.Test.YtjhmfljlclajnacDoorKSealWhole1
import Derived.Test.YtjhmfljlclajnacDoorUPoke
set_option linter.unusedVariables false
set_option linter.unusedSimpArgs false
namespace Wb
open Go Go.RowKit Go.MapKept
def IMap (w : World) (b : Nat) (f : Int → Option Value) : Prop :=
 ∃ es clock, w.heap[b]? = some (.map es clock) ∧ Stamped es clock ∧ (∀ x ∈ es.toList, IsKey (.int .i64) x.key) ∧ ∀ k v, f k = some v ↔ ∃ x ∈ es.toList, x.key = .int .i64 k ∧ x.val = v
section
variable {w w' : World} {b : Nat} {f : Int → Option Value} {P : Program} {t kt e : TypeId}
theorem IMap.lt (h : IMap w b f) : b < w.heap.size := by
 obtain ⟨es, c, h1, _⟩ := h
 exact (Array.getElem?_eq_some_iff.1 h1).1
theorem IMap.below {B : Nat} (h : IMap w b f) (hb : Below B w w') (hlt : b < B) : IMap w' b f := by
 obtain ⟨es, c, h1, r⟩ := h
 exact ⟨es, c, (hb.block b hlt).trans h1, r⟩
theorem IMap.step (h : IMap w b f) (hb : Below w.heap.size w w') : IMap w' b f := h.below hb h.lt
theorem IMap.drewN (h : IMap w b f) (n : Nat) : IMap (w.drewN n) b f := h
theorem IMap.drew (h : IMap w b f) : IMap w.drew b f := h
theorem IMap.alloc (h : IMap w b f) (o : Obj) : IMap (w.alloc o) b f := by
 have hl := h.lt
 obtain ⟨es, c, h1, r⟩ := h
 exact ⟨es, c, (heap_alloc_old w o hl).trans h1, r⟩
theorem IMap.set_other (h : IMap w b f) (p : Addr) (v : Value) (hne : b ≠ p.block) : IMap (w.setCell p v) b f := by
 obtain ⟨es, c, h1, r⟩ := h
 exact ⟨es, c, (Below.heap_setCell w p v b hne).trans h1, r⟩
theorem IMap.grown {row : Option Nat} (h : IMap w b f) (hg : w.grownBy w' row) (hne : some b ≠ row) : IMap w' b f := by
 have hl := h.lt
 obtain ⟨es, c, h1, r⟩ := h
 exact ⟨es, c, (hg.block b hl hne).trans h1, r⟩
theorem IMap.congr {g : Int → Option Value} (h : IMap w b f) (hfg : ∀ k, f k = g k) : IMap w b g := by
 obtain rfl : f = g := funext hfg
 exact h
theorem IMap.at_ {w : World} {b : Nat} {f : Int → Option Value} (h : IMap w b f) (k : Int) : ∃ es clock, w.heap[b]? = some (.map es clock) ∧
    ((f k = none ∧ Instr.findNow (.int .i64) (.int .i64 k) es.toList 0 = some none ∧ ∀ x ∈ es.toList, x.key ≠ .int .i64 k) ∨
     ∃ j x, Instr.findNow (.int .i64) (.int .i64 k) es.toList 0 = some (some (j, x.val)) ∧ es[j]? = some x ∧ x.key = .int .i64 k ∧ f k = some x.val) := by
 obtain ⟨es, c, h1, h2, h3, h4⟩ := h
 refine ⟨es, c, h1, ?_⟩
 rcases findNow_spec (d := .int .i64) (k := .int .i64 k) rfl es.toList 0 h3 with ⟨g1, g2⟩ | ⟨j, x, g1, g2, g3⟩
 ·refine .inl ⟨?_, g1, g2⟩
  cases hf : f k with
  | none => rfl
  | some v =>
   obtain ⟨x, hx, hk, _⟩ := (h4 k v).1 hf
   exact absurd hk (g2 x hx)
 ·rw [Nat.zero_add] at g1
  exact .inr ⟨j, x, g1, by simpa using g2, g3, (h4 k x.val).2 ⟨x, List.mem_of_getElem? g2, g3, rfl⟩⟩
structure Turned (w w' : World) (b : Nat) : Prop where
 os : w'.os = w.os
 tape : w'.tape = w.tape
 output : w'.output = w.output
 size : w'.heap.size = w.heap.size
 block : ∀ i, i ≠ b → w'.heap[i]? = w.heap[i]?
theorem Turned.blk (h : Turned w w' b) {g : Nat} {cs : Array Value} {ty : TypeId} (hg : Blk w g cs ty) (hne : g ≠ b) : Blk w' g cs ty := (h.block g hne).trans hg
theorem Turned.below (h : Turned w w' b) {W : World} {B : Nat} (hw : Below B W w) (hlt : B ≤ b) : Below B W w' :=
 ⟨h.os.trans hw.os, by rw [h.tape]; exact hw.tape, by rw [h.output]; exact hw.output, by rw [h.size]; exact hw.size, fun i hi => (h.block i (by omega)).trans (hw.block i hi)⟩
theorem Turned.grown (h : Turned w w' b) : w.grownBy w' (some b) := ⟨h.os, h.tape, h.output, by rw [h.size]; exact Nat.le_refl _, fun i hi hne => h.block i (fun hh => hne (by rw [hh]))⟩
end
end Wb
namespace Go.Proofs.YtjhmfljlclajnacDoor
open Go.RowKit Wb
set_option maxRecDepth 100000
set_option maxHeartbeats 4000000
theorem tmod_pos (k n : Int) (hn : 0 < n) : -n < k.tmod n ∧ k.tmod n < n ∧ (k.tmod n < 0 → k.tmod n + n = k % n) ∧ (¬ k.tmod n < 0 → k.tmod n = k % n) := by
 have h1 := Int.emod_nonneg k (show n ≠ 0 by omega)
 have h2 := Int.emod_lt_of_pos k hn
 by_cases h0 : 0 ≤ k
 ·rw [Int.tmod_eq_emod_of_nonneg h0]
  refine ⟨by omega, h2, fun h => by omega, fun _ => rfl⟩
 ·have e : k = -(-k) := by omega
  have g1 := Int.emod_nonneg (-k) (show n ≠ 0 by omega)
  have g2 := Int.emod_lt_of_pos (-k) hn
  have e2 : k.tmod n = -((-k) % n) := by
   conv => lhs; rw [e]
   rw [Int.neg_tmod, Int.tmod_eq_emod_of_nonneg (by omega)]
  have e3 : k % n = if (-k) % n = 0 then 0 else n - (-k) % n := by
   have q1 : k = n * (-((-k) / n)) + -((-k) % n) := by have := Int.mul_ediv_add_emod (-k) n; rw [Int.mul_neg]; omega
   split
   ·rename_i hz
    have : n ∣ -k := Int.dvd_of_emod_eq_zero hz
    exact Int.emod_eq_zero_of_dvd ((Int.dvd_neg).1 this)
   ·rename_i hz
    have q2 : k = n * (-((-k) / n) - 1) + (n - (-k) % n) := by rw [Int.mul_sub]; omega
    conv => lhs; rw [q2]
    rw [Int.mul_add_emod_self_left]
    exact Int.emod_eq_of_lt (by omega) (by omega)
  rw [e2]
  refine ⟨by omega, by omega, fun h => ?_, fun h => ?_⟩
  ·rw [e3, if_neg (by omega)]; omega
  ·rw [e3, if_pos (by omega)]; omega
theorem keep_pick (k n : Int) (w : World) (hn : 0 < n) (hn2 : n ≤ 1099511627776) :
    Calls Tryd.prog 12 #[.int .i64 k, .int .i64 n] w fun e w' => e = .returned (.int .i64 (k % n)) ∧ w = w' := by
 obtain ⟨t1, t2, t3, t4⟩ := tmod_pos k n hn
 have hne : n ≠ 0 := by omega
 have hne' : (n == 0) = false := beq_eq_false_iff_ne.2 hne
 by_cases hlt : k.tmod n < 0
 ·have e := hid (t3 hlt)
  clear t3 t4
  have hd : decide (k.tmod n < 0) = true := decide_eq_true hlt
  go_enter Tryd.func12, Tryd.ntmps12
  go_wp2
  go_ret
  exact ⟨ret_i e.out, rfl⟩
 ·have e := hid (t4 hlt)
  clear t3 t4
  have hlt2 : 0 ≤ k.tmod n := by omega
  go_enter Tryd.func12, Tryd.ntmps12
  go_wp2
  go_ret
  exact ⟨ret_i e.out, rfl⟩
end Go.Proofs.YtjhmfljlclajnacDoor
namespace Wb
open Go Go.RowKit
theorem Own.cellsOf {α : Type} {f : α → List Value} {base : Nat} {e : TypeId} {c : Nat} {w : World} {v : Value} {l : List α} (h : Own f base e c w v l) {g : Nat} (hg : v.ownBlock = some g) : ∃ cur, w.heap[g]? = some (.cells cur e (0, 0)) := by
 obtain ⟨_, h2⟩ := h
 rcases h2 with ⟨rfl, _⟩ | ⟨g', cap, cur, rfl, _, hh, _⟩
 ·cases hg
 ·simp only [Value.ownBlock, Option.some.injEq] at hg
  subst hg
  exact ⟨cur, hh⟩
theorem Own.apart {α β : Type} {f : α → List Value} {f2 : β → List Value} {base base2 : Nat} {e e2 : TypeId} {c c2 : Nat} {w : World} {v v2 : Value} {l : List α} {l2 : List β} (h : Own f base e c w v l) (h2 : Own f2 base2 e2 c2 w v2 l2) (hne : e ≠ e2) : v.ownBlock = none ∨ v.ownBlock ≠ v2.ownBlock := by
 cases hv : v.ownBlock with
 | none => exact .inl rfl
 | some g =>
  refine .inr fun hh => ?_
  obtain ⟨c1, h1⟩ := h.cellsOf hv
  obtain ⟨c2, h3⟩ := h2.cellsOf hh.symm
  rw [h1] at h3
  simp only [Option.some.injEq, Obj.cells.injEq] at h3
  exact hne h3.2.1
theorem Own.grownTy {α β : Type} {f : α → List Value} {f2 : β → List Value} {base base2 : Nat} {e e2 : TypeId} {c c2 : Nat} {w w' : World} {v v2 : Value} {l : List α} {l2 : List β} (h : Own f base e c w v l) (h2 : Own f2 base2 e2 c2 w v2 l2) (hne : e ≠ e2) (hg : w.grownBy w' v2.ownBlock) : Own f base e c w' v l :=
 h.grown hg (h.apart h2 hne)
def OTxn (base : Nat) (tc ti : TypeId) (w : World) (v : Value) (t : Txn) : Prop :=
 ∃ vm vd vr, v = txnV t vm vd vr ∧ Own cpyC base tc 2 w vm t.mt ∧ Own cpyC base tc 2 w vd t.dt ∧ Own intC base ti 1 w vr t.rev ∧ t.mt.length ≤ 5864062014805 ∧ t.dt.length ≤ 5864062014805 ∧ t.rev.length ≤ 17592186044160
section
variable {base : Nat} {tc ti tt : TypeId} {w w' : World} {v : Value} {t : Txn}
theorem OTxn.reads (h : OTxn base tc ti w v t) : RTxn w v t := by
 obtain ⟨vm, vd, vr, hv, h1, h2, h3, h4⟩ := h
 exact ⟨vm, vd, vr, hv, h1.reads, h2.reads, h3.reads, h4⟩
theorem OTxn.below (h : OTxn base tc ti w v t) (hb : Below w.heap.size w w') : OTxn base tc ti w' v t := by
 obtain ⟨vm, vd, vr, hv, h1, h2, h3, h4⟩ := h
 exact ⟨vm, vd, vr, hv, h1.below hb, h2.below hb, h3.below hb, h4⟩
theorem OTxn.mono (h : OTxn base tc ti w v t) {b2 : Nat} (hb : b2 ≤ base) : OTxn b2 tc ti w v t := by
 obtain ⟨vm, vd, vr, hv, h1, h2, h3, h4⟩ := h
 exact ⟨vm, vd, vr, hv, h1.mono hb, h2.mono hb, h3.mono hb, h4⟩
theorem OTxn.grownTy {β : Type} {f2 : β → List Value} {base2 : Nat} {e2 : TypeId} {c2 : Nat} {v2 : Value} {l2 : List β} (h : OTxn base tc ti w v t) (h2 : Own f2 base2 e2 c2 w v2 l2) (hc : tc ≠ e2) (hi : ti ≠ e2) (hg : w.grownBy w' v2.ownBlock) : OTxn base tc ti w' v t := by
 obtain ⟨vm, vd, vr, hv, h1, h2', h3, h4⟩ := h
 exact ⟨vm, vd, vr, hv, h1.grownTy h2 hc hg, h2'.grownTy h2 hc hg, h3.grownTy h2 hi hg, h4⟩
theorem OTxn.tv (h : OTxn base tc ti w v t) : ∃ x : TV, x.t = t ∧ v = x.val ∧ OTxn base tc ti w x.val x.t := by
 obtain ⟨x, hx, hv, _⟩ := h.reads.tv
 exact ⟨x, hx, hv, by rw [hx, ← hv]; exact h⟩
def OTxns (base : Nat) (tt tc ti : TypeId) (w : World) (v : Value) (l : List Txn) : Prop :=
 ∃ xs : List TV, Own tvC base tt 10 w v xs ∧ xs.map (·.t) = l ∧ ∀ x ∈ xs, OTxn base tc ti w x.val x.t
variable {l : List Txn}
theorem OTxns.nil (base : Nat) (tt tc ti : TypeId) (w : World) : OTxns base tt tc ti w (.slice none 0 0) [] := ⟨[], Own.nil _ _ _ _ _, rfl, fun _ h => absurd h List.not_mem_nil⟩
theorem OTxns.below (h : OTxns base tt tc ti w v l) (hb : Below w.heap.size w w') : OTxns base tt tc ti w' v l := by
 obtain ⟨xs, h1, h2, h3⟩ := h
 exact ⟨xs, h1.below hb, h2, fun x hx => (h3 x hx).below hb⟩
theorem OTxns.mono (h : OTxns base tt tc ti w v l) {b2 : Nat} (hb : b2 ≤ base) : OTxns b2 tt tc ti w v l := by
 obtain ⟨xs, h1, h2, h3⟩ := h
 exact ⟨xs, h1.mono hb, h2, fun x hx => (h3 x hx).mono hb⟩
theorem OTxns.reads (h : OTxns base tt tc ti w v l) (hl : l.length ≤ 1099511627744) : RTxns w v l := by
 obtain ⟨xs, h1, rfl, h3⟩ := h
 exact ⟨xs, h1.reads, rfl, fun x hx => (h3 x hx).reads, by simpa using hl⟩
theorem OTxns.form (h : OTxns base tt tc ti w v l) : ∃ a c, v = .slice a l.length c := by
 obtain ⟨xs, h1, rfl, h3⟩ := h
 obtain ⟨a, c, hv⟩ := h1.form
 exact ⟨a, c, by rw [hv, List.length_map]⟩
theorem OTxns.pushed {xs : List TV} {v' : Value} {y : TV} (h1 : Own tvC base tt 10 w v xs) (h3 : ∀ x ∈ xs, OTxn base tc ti w x.val x.t) (hy : OTxn base tc ti w y.val y.t) (hc : tc ≠ tt) (hi : ti ≠ tt) (ho : Own tvC base tt 10 w' v' (xs ++ [y])) (hg : w.grownBy w' v.ownBlock) :
    OTxns base tt tc ti w' v' (xs.map (·.t) ++ [y.t]) := by
 refine ⟨xs ++ [y], ho, by simp, fun x hx => ?_⟩
 rcases List.mem_append.1 hx with hx | hx
 ·exact (h3 x hx).grownTy h1 hc hi hg
 ·rw [List.mem_singleton] at hx
  subst hx
  exact hy.grownTy h1 hc hi hg
end
theorem RTxns.at3 {w : World} {a : Option Addr} {n cap : Nat} {l : List Txn} (h : RTxns w (.slice a n cap) l) {k : Nat} (hk : k < l.length) :
    ∃ b off am cm ad cd ar cr, a = some ⟨b, off, none⟩ ∧ RTxn w (txnV l[k] (.slice am l[k].mt.length cm) (.slice ad l[k].dt.length cd) (.slice ar l[k].rev.length cr)) l[k] ∧ w.cell? ⟨b, off + k * 10, none⟩ = some (.int .i64 l[k].seq) ∧ w.cell? ⟨b, off + k * 10 + 1, none⟩ = some (.slice am l[k].mt.length cm) ∧ w.cell? ⟨b, off + k * 10 + 2, none⟩ = some (.slice ad l[k].dt.length cd) ∧ w.cell? ⟨b, off + k * 10 + 3, none⟩ = some (.slice ar l[k].rev.length cr) ∧ w.cell? ⟨b, off + k * 10 + 4, none⟩ = some (.bool l[k].h0.on) ∧ w.cell? ⟨b, off + k * 10 + 5, none⟩ = some (.int .i64 l[k].h0.left) ∧ w.cell? ⟨b, off + k * 10 + 6, none⟩ = some (.bool l[k].h1.on) ∧ w.cell? ⟨b, off + k * 10 + 7, none⟩ = some (.int .i64 l[k].h1.left) ∧ w.cell? ⟨b, off + k * 10 + 8, none⟩ = some (.bool l[k].h2.on) ∧ w.cell? ⟨b, off + k * 10 + 9, none⟩ = some (.int .i64 l[k].h2.left) := by
 obtain ⟨b, off, vm, vd, vr, ha, hr, c0, c1, c2, c3, c4⟩ := h.at hk
 have hr' := hr
 obtain ⟨vm', vd', vr', hv, hm, hd, hrr, n1, n2, n3⟩ := hr
 simp only [txnV, Value.agg.injEq, Array.mk.injEq, List.cons.injEq, and_true, true_and] at hv
 obtain ⟨rfl, rfl, rfl⟩ := hv
 obtain ⟨am, cm, rfl, _⟩ := hm.form
 obtain ⟨ad, cd, rfl, _⟩ := hd.form
 obtain ⟨ar, cr, rfl, _⟩ := hrr.form
 exact ⟨b, off, am, cm, ad, cd, ar, cr, ha, hr', c0, c1, c2, c3, c4⟩
theorem gB {w w' : World} (h : Below w.heap.size w w') (row : Option Nat) : w.grownBy w' row := ⟨h.os, h.tape, h.output, h.size, fun k hk _ => h.block k hk⟩
theorem gSet {w w' : World} {b : Nat} (h : w.grownBy w' (some b)) (i : Nat) (v : Value) : w.grownBy (w'.setCell ⟨b, i, none⟩ v) (some b) :=
 ⟨h.os, h.tape, h.output, by simpa using h.size, fun k hk hne => by rw [Below.heap_setCell w' ⟨b, i, none⟩ v k (fun hh => hne (by rw [hh]))]; exact h.block k hk hne⟩
theorem gBelow {B b : Nat} {W w w' : World} (h : w.grownBy w' (some b)) (hw : Below B W w) (hs : B ≤ w.heap.size) (hb : B ≤ b) : Below B W w' :=
 hw.grown h hs (fun k hk => by cases hk; exact hb)
theorem gTrans {w w1 w2 : World} {row : Option Nat} (h : w.grownBy w1 row) (h2 : w1.grownBy w2 row) : w.grownBy w2 row :=
 ⟨h2.os.trans h.os, h2.tape.trans h.tape, h2.output.trans h.output, Nat.le_trans h.size h2.size, fun k hk hne => (h2.block k (Nat.lt_of_lt_of_le hk h.size) hne).trans (h.block k hk hne)⟩
end Wb
namespace Go.Proofs.YtjhmfljlclajnacDoor
open Go.RowKit Wb
set_option maxRecDepth 100000
set_option maxHeartbeats 2000000
theorem scan_next0 (br : Nat) (vs vw : Value) (a : Int) (w : World) (k : Blk w br #[vs, vw, .int .i64 a, .int .i64 0] 74) :
    Calls Tryd.prog 42 #[.pointer (some ⟨br, 0, none⟩)] w fun e w' => e = .returned (.tuple #[.string ⟨#[]⟩, .bool false]) ∧ w = w' := by
 have c3 := k.cell 3
 simp only [Zga, Zgb, Zgc] at c3
 go_enter Tryd.func42, Tryd.ntmps42
 go_wp2
 go_ret2
 exact ⟨rfl, rfl⟩
theorem scan_next1 (d : Dsk) (br : Nat) (vs vw : Value) (a lf : Int) (w : World) (hd : RDisk w (.agg #[vs, vw]) d) (k : Blk w br #[vs, vw, .int .i64 a, .int .i64 lf] 74)
    (a0 : 0 ≤ a) (a1 : a < 24) (l0 : 0 < lf) (l1 : lf ≤ 24) :
    Calls Tryd.prog 42 #[.pointer (some ⟨br, 0, none⟩)] w fun e w' => e = .returned (.tuple #[.string (readD d (1 + a)), .bool true]) ∧ Blk w' br #[vs, vw, .int .i64 ((a + 1) % 24), .int .i64 (lf - 1)] 74 ∧ w.grownBy w' (some br) := by
 have hR := fun w (hh : RDisk w (.agg #[vs, vw]) d) => disk_Read d (1 + a) _ w hh
 have c0 := k.cell 0; have c1 := k.cell 1; have c2 := k.cell 2; have c3 := k.cell 3
 simp only [Zga, Zgb, Zgc] at c0 c1 c2 c3
 have hlf : (lf == 0) = false := beq_eq_false_iff_ne.2 (by omega)
 have lt := k.lt
 obtain ⟨vs', vw', hv, hs, hw, n1, n2⟩ := hd
 have hd : RDisk w (.agg #[vs, vw]) d := ⟨vs', vw', hv, hs, hw, n1, n2⟩
 simp only [Value.agg.injEq, Array.mk.injEq, List.cons.injEq, and_true] at hv
 obtain ⟨rfl, rfl⟩ := hv
 obtain ⟨as_, cs, rfl, _⟩ := hs.form
 obtain ⟨aw, cw, rfl, _⟩ := hw.form
 clear hs hw
 generalize readD d (1 + a) = s at *
 generalize readE d (1 + a) = e at *
 have ha : IntKind.i64.wrap (1 + a) = 1 + a := IntWalk.i64_in _ (by omega)
 replace hR := hid hR; replace hd := hid hd
 go_enter Tryd.func42, Tryd.ntmps42
 go_wp2
 (refine wp_region_below (by kernel_rfl) (by kernel_rfl) ?_); (repeat (go_big_quiet_step ((first | (go_at_call 15; exact BW.call (hR.out _ (hd.out.below (BW.below _)))))) )); refine wpQuiet_nil ?_; intro wq hw'; obtain ⟨⟨_, hb1⟩, rfl⟩ := hw'
 have k' := k.step hb1
 have c2' := k'.cell 2; have c3' := k'.cell 3
 have f2 := k'.free 2; have f3 := k'.free 3
 have lt' := k'.lt
 simp only [Zga, Zgb, Zgc] at c2' c3'
 have g := gSet (gSet (gB hb1 (some br)) 2 (.int .i64 ((a + 1) % 24))) 3 (.int .i64 (lf - 1))
 have k2 := (k'.set 2 (.int .i64 ((a + 1) % 24))).set 3 (.int .i64 (lf - 1))
 replace g := hid g; replace k2 := hid k2
 clear c0 c1 c2 c3 k
 go_wp2
 go_ret2
 exact ⟨rfl, k2.out, g.out⟩
theorem elemCpy : Elem Tryd.prog 37 46 2 24 := Elem.mk' (z := .agg #[.int .i64 0, .string ⟨#[]⟩]) Tryd.underlying37 (by kernel_rfl) rfl
end Go.Proofs.YtjhmfljlclajnacDoor
namespace Wb
open Go Go.RowKit
theorem Own.setCells {α : Type} {f : α → List Value} {base : Nat} {e : TypeId} {c : Nat} {v : Value} {l : List α} : ∀ (ps : List (Addr × Value)) (w : World), Own f base e c w v l → (∀ p ∈ ps, p.1.block < base) → Own f base e c (ps.foldl (fun w p => w.setCell p.1 p.2) w) v l
 | [], _, h, _ => h
 | p :: ps, w, h, hp => Own.setCells ps _ (h.setCell (hp p (by simp)) p.2) (fun q hq => hp q (by simp [hq]))
theorem Below.setCells {B : Nat} {w : World} : ∀ (ps : List (Addr × Value)) (w' : World), Below B w w' → (∀ p ∈ ps, B ≤ p.1.block) → Below B w (ps.foldl (fun w p => w.setCell p.1 p.2) w')
 | [], _, h, _ => h
 | p :: ps, w', h, hp => Below.setCells ps _ (h.setCell (hp p (by simp)) p.2) (fun q hq => hp q (by simp [hq]))
end Wb
namespace Go.Proofs.YtjhmfljlclajnacDoor
open Go.RowKit Wb
set_option maxRecDepth 100000
set_option maxHeartbeats 4000000
theorem elemIntT : Elem Tryd.prog 50 3 1 8 := Elem.mk' (z := .int .i64 0) Tryd.underlying50 (by kernel_rfl) rfl
end Go.Proofs.YtjhmfljlclajnacDoor
namespace Wb
open Go Go.RowKit
def rdrC (vs vw : Value) (A : Int) (n : Nat) : Array Value := #[vs, vw, .int .i64 ((A + (24 - (n : Int))) % 24), .int .i64 (n : Int)]
theorem Own.grownBlk {α : Type} {f : α → List Value} {base : Nat} {e : TypeId} {c : Nat} {w w' : World} {v : Value} {l : List α} (h : Own f base e c w v l) {b : Nat} {cs : Array Value} {t : TypeId} (hb : Blk w b cs t) (hne : e ≠ t) (hg : w.grownBy w' (some b)) : Own f base e c w' v l := by
 refine h.grown hg ?_
 cases hv : v.ownBlock with
 | none => exact .inl rfl
 | some g =>
  refine .inr fun hh => ?_
  obtain ⟨c1, h1⟩ := h.cellsOf hv
  cases hh
  unfold Blk at hb
  rw [h1] at hb
  simp only [Option.some.injEq, Obj.cells.injEq] at hb
  exact hne hb.2.1
end Wb
namespace Go.Proofs.YtjhmfljlclajnacDoor
open Go.RowKit Wb
set_option maxRecDepth 100000
set_option maxHeartbeats 8000000
theorem next_nil (br : Nat) (vs vw : Value) (A : Int) (w : World) (k : Blk w br (rdrC vs vw A 0) 74) :
    Calls Tryd.prog 42 #[.pointer (some ⟨br, 0, none⟩)] w fun e w' => e = .returned (.tuple #[.string ⟨#[]⟩, .bool false]) ∧ w = w' := scan_next0 br vs vw _ w k
theorem next_cons (d : Dsk) (br : Nat) (vs vw : Value) (A : Int) (s : ByteArray) (r : List ByteArray) (w : World) (hd : RDisk w (.agg #[vs, vw]) d) (k : Blk w br (rdrC vs vw A (r.length + 1)) 74) (hs : sfx d A (s :: r)) :
    Calls Tryd.prog 42 #[.pointer (some ⟨br, 0, none⟩)] w fun e w' => e = .returned (.tuple #[.string s, .bool true]) ∧ Blk w' br (rdrC vs vw A r.length) 74 ∧ w.grownBy w' (some br) := by
 obtain ⟨h1, h2, h3⟩ := sfx_cons hs
 have := scan_next1 d br vs vw ((A + (24 - ((r.length + 1 : Nat) : Int))) % 24) ((r.length + 1 : Nat) : Int) w hd k (Int.emod_nonneg _ (by decide)) (Int.emod_lt_of_pos _ (by decide)) (by omega) (by omega)
 rw [h2] at this
 have e1 : ((A + (24 - ((r.length + 1 : Nat) : Int))) % 24 + 1) % 24 = (A + (24 - (r.length : Int))) % 24 := by omega
 have e2 : ((r.length + 1 : Nat) : Int) - 1 = (r.length : Int) := by omega
 rw [e1, e2] at this
 exact this
end Go.Proofs.YtjhmfljlclajnacDoor
namespace Wb
open Go Go.RowKit
def RFnd (w : World) (v : Value) (F : Fnd) : Prop := ∃ vt, v = .agg #[vt, .int .i64 F.next, .int .i64 F.at_] ∧ RTxns w vt F.txns
theorem RFnd.below {w w' : World} {v : Value} {F : Fnd} (h : RFnd w v F) (hb : Below w.heap.size w w') : RFnd w' v F := by
 obtain ⟨vt, hv, hr⟩ := h
 exact ⟨vt, hv, hr.below hb⟩
theorem RL.drop {α : Type} {f : α → List Value} {c : Nat} (hf : ∀ x, (f x).length = c) {w : World} {b off n cap : Nat} {l : List α} (h : RL f w (.slice (some ⟨b, off, none⟩) n cap) l) {k : Nat} (hk : k ≤ l.length) :
    RL f w (.slice (some ⟨b, off + k * c, none⟩) (n - k) (cap - k)) (l.drop k) := by
 obtain ⟨a, cap', hv, h1, h2, h3⟩ := h
 simp only [Value.slice.injEq] at hv
 obtain ⟨rfl, rfl, rfl⟩ := hv
 refine ⟨some ⟨b, off + k * c, none⟩, cap - k, by rw [List.length_drop], by rw [List.length_drop]; omega, by omega, ?_⟩
 rcases h3 with h3 | ⟨b', off', ha, hc⟩
 ·left
  cases hl : l.drop k with
  | nil => rfl
  | cons x r =>
   have : l.flatMap f = (l.take k).flatMap f ++ (l.drop k).flatMap f := by rw [← List.flatMap_append, List.take_append_drop]
   rw [h3, hl] at this
   simp only [List.nil_eq, List.append_eq_nil_iff] at this
   exact this.2
 ·right
  simp only [Option.some.injEq, Addr.mk.injEq, and_true] at ha
  obtain ⟨rfl, rfl⟩ := ha
  refine ⟨b, off + k * c, rfl, fun j u hj => ?_⟩
  have : l.flatMap f = (l.take k).flatMap f ++ (l.drop k).flatMap f := by rw [← List.flatMap_append, List.take_append_drop]
  have hl := flat_len hf (l.take k)
  rw [List.length_take, Nat.min_eq_left hk] at hl
  have h5 := hc (k * c + j) u (by rw [this, List.getElem?_append_right (by omega), hl, Nat.add_sub_cancel_left]; exact hj)
  rw [← Nat.add_assoc] at h5
  exact h5
end Wb
namespace Go.Proofs.YtjhmfljlclajnacDoor
open Go.RowKit Wb
set_option maxRecDepth 100000
set_option maxHeartbeats 8000000
theorem _root_.Wb.St.gsC {S : List Nat} {w0 w : World} {a : Nat} {ca : List Value} {ta : TypeId} {L : List Ent} {R : List Rd} (_ : St S w0 w (⟨a, ca, ta⟩ :: L) R) : ∃ x, x = a := ⟨_, rfl⟩
theorem later_some {d : Dsk} {q : Int} {i : Nat} (hi : i < 24) (h : laterAt d q i = true) : laterB d q = true := List.any_eq_true.2 ⟨i, List.mem_range.2 hi, h⟩
theorem later_none {d : Dsk} {q : Int} (h : ∀ i < 24, laterAt d q i = false) : laterB d q = false := List.any_eq_false.2 fun i hi => by rw [h i (List.mem_range.1 hi)]; simp
theorem keep_later (hDec : ∀ (s : ByteArray) (w : World), s.size ≤ 9223372036854775807 → Calls Tryd.prog 22 #[.string s] w fun e w' => ∃ v, e = .returned (.tuple #[v, .int .i64 (decE s)]) ∧ OMark w.heap.size w' v (decM s) ∧ Below w.heap.size w w') (d : Dsk) (q : Int) (v : Value) (w0 : World) (hd : RDisk w0 v d) :
    Calls Tryd.prog 9 #[v, .int .i64 q] w0 fun e w' => e = .returned (.bool (laterB d q)) ∧ Below w0.heap.size w0 w' := by
 have hd0 := hd
 obtain ⟨as_, cs, aw, cw, rfl, h1, h2, n1, n2⟩ := hd.form
 clear h1 h2
 have hRd := fun n w' (hb : Below w0.heap.size w0 w') => disk_Read d n _ w' (hd0.below hb)
 have hD := fun n w' => hDec (readD d n) w' (by have := readD_size d n; omega)
 have hsome := fun i (hi : i < 24) h => later_some (d := d) (q := q) hi h
 have hnone := fun h => later_none (d := d) (q := q) h
 have hat : ∀ i, laterAt d q i = decide (decE (readD d (1 + (i : Int))) = 0 ∧ q ≤ (decM (readD d (1 + (i : Int)))).seq) := fun i => rfl
 have X : St [] w0 w0 [] [] := St.start [] w0
 generalize laterB d q = ans at *
 replace hRd := hid hRd; replace hD := hid hD; replace hsome := hid hsome; replace hnone := hid hnone; replace hat := hid hat
 clear hd hd0
 go_enter Tryd.func9, Tryd.ntmps9
 go_wp2_with (first
  | (refine ZdL ?_) | (refine ZdS ?_; clear X; intro w X) | (refine ZdA ?_; clear X; intro g w X))
 obtain ⟨g1, rfl⟩ := X.gsC
 go_loopw [5] (fun i wr => ∃ k : Nat, k ≤ 24 ∧ i = .int .i64 ((k : Int) + 1) ∧ Hid (∀ j < k, laterAt d q j = false) ∧ St [] w0 wr [⟨g1, [.slice as_ d.safe.length cs, .slice aw d.writes.length cw], 25⟩] []) (fun i _ => 25 - (intOf i).toNat)
 case atStart => exact ⟨0, Nat.zero_le _, rfl, hid (fun j hj => absurd hj (Nat.not_lt_zero j)), X⟩
 case round =>
  clear X
  obtain ⟨k, hk, rfl, hgk, X⟩ := hrel
  by_cases hlt : k < 24
  ·have hRk := fun w' hb => hRd.out ((k : Int) + 1) w' hb
   have hDk := fun w' => hD.out ((k : Int) + 1) w'
   have hak := hat.out k
   rw [Int.add_comm 1 (k : Int)] at hak
   have hsk := hsome.out k hlt
   have hgn : laterAt d q k = false → ∀ j < k + 1, laterAt d q j = false := fun h j hj => by
    rcases Nat.lt_succ_iff_lt_or_eq.1 hj with h1 | rfl
    ·exact hgk.out j h1
    ·exact h
   generalize laterAt d q k = lk at *
   generalize readE d ((k : Int) + 1) = re at *
   generalize readD d ((k : Int) + 1) = s at *
   generalize decM s = m at *
   obtain ⟨mk, ms, ma, mt, mb⟩ := m
   dsimp only at hak
   generalize decE s = de at *
   replace hRk := hid hRk; replace hDk := hid hDk; replace hsk := hid hsk; replace hgn := hid hgn
   have hle : ((k : Int) + 1 ≤ 24) := by omega
   cases lk with
   | true =>
    obtain rfl := hsk.out rfl
    obtain ⟨rfl, hq⟩ := of_decide_eq_true hak.symm
    clear hak
    go_wp2_with (first
     | (refine ZdL ?_) | (refine ZdS ?_; clear X; intro w X) | (refine ZdA ?_; clear X; intro g w X)
     | (go_at_call 15; go_loud ((with_reducible refine (hRk.out _ X.below).mono ?_); rintro e w1 ⟨rfl, hb1⟩; replace X := X.call hb1; clear hb1))
     | (go_at_call 22; go_loud ((with_reducible refine (hDk.out _).mono ?_); rintro e w1 ⟨v1, rfl, hm, hb1⟩; obtain ⟨vt, vb, rfl, ot, ob, _⟩ := hm; obtain ⟨at1, ct1, rfl, _⟩ := ot.reads.form; obtain ⟨ab1, cb1, rfl, _⟩ := ob.reads.form; replace X := X.call hb1; clear hb1 ot ob)))
    go_ret
    exact ⟨rfl, X.below⟩
   | false =>
    have hno := of_decide_eq_false hak.symm
    clear hak hsk
    by_cases he : de = 0
    ·subst he
     have hq : ¬ q ≤ ms := fun h => hno ⟨rfl, h⟩
     clear hno
     go_wp2_with (first
      | (refine ZdL ?_) | (refine ZdS ?_; clear X; intro w X) | (refine ZdA ?_; clear X; intro g w X)
      | (go_at_call 15; go_loud ((with_reducible refine (hRk.out _ X.below).mono ?_); rintro e w1 ⟨rfl, hb1⟩; replace X := X.call hb1; clear hb1))
      | (go_at_call 22; go_loud ((with_reducible refine (hDk.out _).mono ?_); rintro e w1 ⟨v1, rfl, hm, hb1⟩; obtain ⟨vt, vb, rfl, ot, ob, _⟩ := hm; obtain ⟨at1, ct1, rfl, _⟩ := ot.reads.form; obtain ⟨ab1, cb1, rfl, _⟩ := ob.reads.form; replace X := X.call hb1; clear hb1 ot ob)))
     go_roundw
     case rel => (first | exact ⟨k + 1, by omega, by go_num, hid (hgn.out trivial), X.tail⟩ | ((repeat apply Exists.intro); exact ⟨⟨k + 1, by omega, by go_num, hid (hgn.out trivial), X.tail⟩, rfl⟩))
     case measure => simp [intOf]; omega
    ·have he2 : (de == 0) = false := beq_eq_false_iff_ne.2 he
     clear hno
     go_wp2_with (first
      | (refine ZdL ?_) | (refine ZdS ?_; clear X; intro w X) | (refine ZdA ?_; clear X; intro g w X)
      | (go_at_call 15; go_loud ((with_reducible refine (hRk.out _ X.below).mono ?_); rintro e w1 ⟨rfl, hb1⟩; replace X := X.call hb1; clear hb1))
      | (go_at_call 22; go_loud ((with_reducible refine (hDk.out _).mono ?_); rintro e w1 ⟨v1, rfl, hm, hb1⟩; obtain ⟨vt, vb, rfl, ot, ob, _⟩ := hm; obtain ⟨at1, ct1, rfl, _⟩ := ot.reads.form; obtain ⟨ab1, cb1, rfl, _⟩ := ob.reads.form; replace X := X.call hb1; clear hb1 ot ob)))
     go_roundw
     case rel => (first | exact ⟨k + 1, by omega, by go_num, hid (hgn.out trivial), X.tail⟩ | ((repeat apply Exists.intro); exact ⟨⟨k + 1, by omega, by go_num, hid (hgn.out trivial), X.tail⟩, rfl⟩))
     case measure => simp [intOf]; omega
  ·obtain rfl : k = 24 := by omega
   obtain rfl := hnone.out hgk.out
   go_wp2
   go_ret
   exact ⟨rfl, X.below⟩
theorem keep_used (hDec : ∀ (s : ByteArray) (w : World), s.size ≤ 9223372036854775807 → Calls Tryd.prog 22 #[.string s] w fun e w' => ∃ v, e = .returned (.tuple #[v, .int .i64 (decE s)]) ∧ OMark w.heap.size w' v (decM s) ∧ Below w.heap.size w w') (d : Dsk) (F : Fnd) (v : Value) (a : Option Addr) (cap : Nat) (w0 : World) (hd : RDisk w0 v d)
    (ha : 0 ≤ F.at_ ∧ F.at_ < 24) (hs : 0 ≤ (decM (readD d 0)).at_ ∧ (decM (readD d 0)).at_ < 24) :
    Calls Tryd.prog 18 #[v, .agg #[.slice a F.txns.length cap, .int .i64 F.next, .int .i64 F.at_]] w0 fun e w' => e = .returned (.int .i64 (usedI d F)) ∧ Below w0.heap.size w0 w' := by
 have hd0 := hd
 obtain ⟨as_, cs, aw, cw, rfl, h1, h2, n1, n2⟩ := hd.form
 clear h1 h2
 have hRd := fun w' (hb : Below w0.heap.size w0 w') => disk_Read d 0 _ w' (hd0.below hb)
 have hD := fun w' => hDec (readD d 0) w' (by have := readD_size d 0; omega)
 have hP := fun w' => keep_pick (F.at_ - (decM (readD d 0)).at_) 24 w' (by decide) (by decide)
 have hu : usedI d F = if (F.at_ - (decM (readD d 0)).at_) % 24 = 0 ∧ 0 < F.txns.length then 24 else (F.at_ - (decM (readD d 0)).at_) % 24 := rfl
 have X : St [] w0 w0 [] [] := St.start [] w0
 generalize usedI d F = ans at *
 obtain ⟨l, nx, fa⟩ := F
 dsimp only at *
 generalize readE d 0 = re at *
 generalize readD d 0 = s at *
 generalize decM s = m at *
 obtain ⟨mk, ms, ma, mt, mb⟩ := m
 dsimp only at *
 generalize decE s = de at *
 have hsub : (-9223372036854775808 ≤ fa - ma ∧ fa - ma ≤ 9223372036854775807) := by omega
 generalize hr : (fa - ma) % 24 = r at *
 replace hr := hid hr
 replace hRd := hid hRd; replace hD := hid hD; replace hP := hid hP; replace hu := hid hu
 clear hd hd0 hDec
 by_cases hz : r = 0
 ·subst hz
  by_cases hl : 0 < l.length
  ·have hans := hu.out
   rw [if_pos ⟨rfl, hl⟩] at hans
   subst hans
   clear hu
   go_enter Tryd.func18, Tryd.ntmps18
   go_wp2_with (first
    | (refine ZdL ?_) | (refine ZdS ?_; clear X; intro w X) | (refine ZdA ?_; clear X; intro g w X)
    | (go_at_call 15; go_loud ((with_reducible refine (hRd.out _ X.below).mono ?_); rintro e w1 ⟨rfl, hb1⟩; replace X := X.call hb1; clear hb1))
    | (go_at_call 12; go_loud ((with_reducible refine (hP.out _).mono ?_); rintro e w1 ⟨rfl, rfl⟩))
    | (go_at_call 22; go_loud ((with_reducible refine (hD.out _).mono ?_); rintro e w1 ⟨v1, rfl, hm, hb1⟩; obtain ⟨vt, vb, rfl, ot, ob, _⟩ := hm; obtain ⟨at1, ct1, rfl, _⟩ := ot.reads.form; obtain ⟨ab1, cb1, rfl, _⟩ := ob.reads.form; replace X := X.call hb1; clear hb1 ot ob)))
   go_ret
   exact ⟨rfl, X.below⟩
  ·have hans := hu.out
   rw [if_neg (fun h => hl h.2)] at hans
   subst hans
   clear hu
   go_enter Tryd.func18, Tryd.ntmps18
   go_wp2_with (first
    | (refine ZdL ?_) | (refine ZdS ?_; clear X; intro w X) | (refine ZdA ?_; clear X; intro g w X)
    | (go_at_call 15; go_loud ((with_reducible refine (hRd.out _ X.below).mono ?_); rintro e w1 ⟨rfl, hb1⟩; replace X := X.call hb1; clear hb1))
    | (go_at_call 12; go_loud ((with_reducible refine (hP.out _).mono ?_); rintro e w1 ⟨rfl, rfl⟩))
    | (go_at_call 22; go_loud ((with_reducible refine (hD.out _).mono ?_); rintro e w1 ⟨v1, rfl, hm, hb1⟩; obtain ⟨vt, vb, rfl, ot, ob, _⟩ := hm; obtain ⟨at1, ct1, rfl, _⟩ := ot.reads.form; obtain ⟨ab1, cb1, rfl, _⟩ := ob.reads.form; replace X := X.call hb1; clear hb1 ot ob)))
   go_ret
   exact ⟨rfl, X.below⟩
 ·have hz2 : (r == 0) = false := beq_eq_false_iff_ne.2 hz
  have hans := hu.out
  rw [if_neg (fun h => hz h.1)] at hans
  subst hans
  clear hu
  go_enter Tryd.func18, Tryd.ntmps18
  go_wp2_with (first
   | (refine ZdL ?_) | (refine ZdS ?_; clear X; intro w X) | (refine ZdA ?_; clear X; intro g w X)
   | (go_at_call 15; go_loud ((with_reducible refine (hRd.out _ X.below).mono ?_); rintro e w1 ⟨rfl, hb1⟩; replace X := X.call hb1; clear hb1))
   | (go_at_call 12; go_loud ((with_reducible refine (hP.out _).mono ?_); rintro e w1 ⟨rfl, rfl⟩))
   | (go_at_call 22; go_loud ((with_reducible refine (hD.out _).mono ?_); rintro e w1 ⟨v1, rfl, hm, hb1⟩; obtain ⟨vt, vb, rfl, ot, ob, _⟩ := hm; obtain ⟨at1, ct1, rfl, _⟩ := ot.reads.form; obtain ⟨ab1, cb1, rfl, _⟩ := ob.reads.form; replace X := X.call hb1; clear hb1 ot ob)))
  go_ret
  exact ⟨rfl, X.below⟩
end Go.Proofs.YtjhmfljlclajnacDoor
namespace Go.Proofs.YtjhmfljlclajnacDoor
open Go.RowKit Wb
set_option maxRecDepth 100000
set_option maxHeartbeats 4000000
theorem keep_sameCopies (l : List Cpy) (v1 v2 : Value) (w : World) (h1 : RL cpyC w v1 l) (h2 : RL cpyC w v2 l) (hl : l.length ≤ 5864062014805) :
    Calls Tryd.prog 39 #[v1, v2] w fun e w' => e = .returned (.bool true) ∧ Below w.heap.size w w' := by
 obtain ⟨a, cap, rfl, _⟩ := h1.form
 obtain ⟨b, bcap, rfl, _⟩ := h2.form
 have hle : ((l.length : Int) != (l.length : Int)) = false := by simp
 replace h1 := hid h1
 replace h2 := hid h2
 go_enter Tryd.func39, Tryd.ntmps39
 go_wp2
 go_loopw [13] (fun i wr => ∃ k : Nat, k ≤ l.length ∧ i = .int .i64 k ∧ Below w.heap.size w wr) (fun i _ => l.length - (intOf i).toNat)
 case atStart => exact ⟨0, Nat.zero_le _, rfl, b0 w⟩
 case round =>
  obtain ⟨k, hk, rfl, nx⟩ := hrel
  by_cases hlt : k < l.length
  ·obtain ⟨b1, o1, rfl, c0, c1⟩ := RL.at2 (fun x => .int .i64 x.block) (fun x => .string x.text) (fun _ => rfl) (h1.out.below nx) hlt
   obtain ⟨b2, o2, rfl, d0, d1⟩ := RL.at2 (fun x => .int .i64 x.block) (fun x => .string x.text) (fun _ => rfl) (h2.out.below nx) hlt
   generalize l[k] = x at *
   go_wp2
   go_quiet (fail)
   go_wp2
   go_roundw
   case rel => exact ⟨k + 1, by omega, by go_num, belowDrewN nx⟩
   case measure => simp [intOf]; omega
  ·go_wp2
   go_ret
   exact ⟨rfl, nx⟩
def alikeP (t u : Txn) : Prop := t.seq = u.seq ∧ t.mt = u.mt ∧ t.rev = u.rev
theorem keep_alike (t u : Txn) (hE : alikeP t u) (v1 v2 : Value) (w0 : World) (h1 : RTxn w0 v1 t) (h2 : RTxn w0 v2 u) :
    Calls Tryd.prog 19 #[v1, v2] w0 fun e w' => e = .returned (.bool true) ∧ Below w0.heap.size w0 w' := by
 obtain ⟨vm, vd, vr, rfl, hm, hd, hr, n1, n2, n3⟩ := h1
 obtain ⟨vm2, vd2, vr2, rfl, hm2, hd2, hr2, _⟩ := h2
 unfold txnV
 obtain ⟨am, cm, rfl, _⟩ := hm.form
 obtain ⟨am2, cm2, rfl, _⟩ := hm2.form
 obtain ⟨ad, cd, rfl, _⟩ := hd.form
 obtain ⟨ad2, cd2, rfl, _⟩ := hd2.form
 obtain ⟨ar, cr, rfl, _⟩ := hr.form
 obtain ⟨ar2, cr2, rfl, _⟩ := hr2.form
 obtain ⟨seq, mt, dt, rev, ⟨on0, l0⟩, ⟨on1, l1⟩, ⟨on2, l2⟩⟩ := t
 obtain ⟨seq2, mt2, dt2, rev2, ⟨pn0, k0⟩, ⟨pn1, k1⟩, ⟨pn2, k2⟩⟩ := u
 obtain ⟨e1, e2, e3⟩ := hE
 dsimp only at *
 subst e1 e2 e3
 clear hd hd2
 have hle : ((rev.length : Int) != (rev.length : Int)) = false := by simp
 have hSm := fun w' (hb : Below w0.heap.size w0 w') => keep_sameCopies mt _ _ w' (hm.below hb) (hm2.below hb) n1
 have X : St [] w0 w0 [] [] := St.start [] w0
 replace hr := hid hr; replace hr2 := hid hr2; replace hSm := hid hSm
 clear hm hm2
 go_enter Tryd.func19, Tryd.ntmps19
 go_wp2_with (first
  | (refine ZdL ?_) | (refine ZdS ?_; clear X; intro w X) | (refine ZdA ?_; clear X; intro g w X)
  | (go_at_call 39; go_loud ((with_reducible refine (hSm.out _ X.below).mono ?_); rintro e w1 ⟨rfl, hb1⟩; replace X := X.call hb1; clear hb1)))
 obtain ⟨g2, g1, rfl, rfl⟩ := X.gs2
 go_loopw [31] (fun i wr => ∃ k : Nat, k ≤ rev.length ∧ i = .int .i64 k ∧ St [] w0 wr [⟨g2, [.int .i64 seq, .slice am2 mt.length cm2, .slice ad2 dt2.length cd2, .slice ar2 rev.length cr2, .bool pn0, .int .i64 k0, .bool pn1, .int .i64 k1, .bool pn2, .int .i64 k2], 55⟩, ⟨g1, [.int .i64 seq, .slice am mt.length cm, .slice ad dt.length cd, .slice ar rev.length cr, .bool on0, .int .i64 l0, .bool on1, .int .i64 l1, .bool on2, .int .i64 l2], 55⟩] []) (fun i _ => rev.length - (intOf i).toNat)
 case atStart => exact ⟨0, Nat.zero_le _, rfl, X⟩
 case round =>
  clear X
  obtain ⟨k, hk, rfl, X⟩ := hrel
  by_cases hlt : k < rev.length
  ·obtain ⟨b1, o1, hb1, d0⟩ := RL.at1 (fun x => .int .i64 x) (fun _ => rfl) (hr.out.below X.below) hlt
   obtain ⟨b2, o2, hb2, d1⟩ := RL.at1 (fun x => .int .i64 x) (fun _ => rfl) (hr2.out.below X.below) hlt
   cases hb1; cases hb2
   generalize rev[k] = x at *
   have c2 := X.cell (.head _) 3
   have c3 := X.cell (.tail _ (.head _)) 3
   simp only [List.getElem?_cons_succ, List.getElem?_cons_zero] at c2 c3
   have hx0 : (x != x) = false := by simp
   go_wp2
   go_quiet (fail)
   go_wp2
   go_roundw
   case rel => (first | exact ⟨k + 1, by omega, by go_num, X.drewN _⟩ | ((repeat apply Exists.intro); exact ⟨⟨k + 1, by omega, by go_num, X.drewN _⟩, rfl⟩))
   case measure => simp [intOf]; omega
  ·have c3 := X.cell (.tail _ (.head _)) 3
   go_wp2
   go_ret
   exact ⟨rfl, X.below⟩
end Go.Proofs.YtjhmfljlclajnacDoor
namespace Wb
open Go Go.RowKit
def RdIn (base : Nat) (w : World) (r : Rd) : Prop := Sl w r.v r.n r.cs ∧ (r.cs = [] ∨ ∀ b, vblk r.v = some b → base ≤ b)
theorem Own.rdIn {α : Type} {f : α → List Value} {base : Nat} {e : TypeId} {c : Nat} {w : World} {v : Value} {l : List α} (ho : Own f base e c w v l) : RdIn base w (Rd.of f v l) := by
 refine ⟨ho.reads, .inr fun b hbv => ?_⟩
 obtain ⟨_, h2⟩ := ho
 rcases h2 with ⟨rfl, _⟩ | ⟨g, cap, cur, rfl, hbg, _⟩
 ·cases hbv
 ·cases hbv
  exact hbg
theorem St.addRs {S : List Nat} {w0 w : World} {L : List Ent} {R : List Rd} {base : Nat} (X : St S w0 w L R) (hL : ∀ e ∈ L, e.g < base) {Rs : List Rd} (h : ∀ r ∈ Rs, RdIn base w r) : St S w0 w L (Rs ++ R) := by
 induction Rs with
 | nil => exact X
 | cons r Rs ih =>
  obtain ⟨h1, h2⟩ := h r (.head _)
  refine (ih fun x hx => h x (.tail _ hx)).addR h1 ?_
  rcases h2 with h2 | h2
  ·exact .inl h2
  ·exact .inr fun b hb e he heq => by
     have := h2 b hb
     have := hL e he
     omega
def txR (v : Value) (xs : List TV) : List Rd := Rd.of tvC v xs :: xs.flatMap fun x => [Rd.of cpyC x.m.val x.t.mt, Rd.of cpyC x.d.val x.t.dt, Rd.of intC x.r.val x.t.rev]
def TV.fits (x : TV) : Prop := x.t.mt.length ≤ 5864062014805 ∧ x.t.dt.length ≤ 5864062014805 ∧ x.t.rev.length ≤ 17592186044160
theorem OTxns.rdIn {base : Nat} {tt tc ti : TypeId} {w : World} {v : Value} {l : List Txn} (h : OTxns base tt tc ti w v l) : ∃ xs : List TV, xs.map (·.t) = l ∧ (∀ x ∈ xs, x.fits) ∧ ∀ r ∈ txR v xs, RdIn base w r := by
 obtain ⟨xs, h1, h2, h3⟩ := h
 refine ⟨xs, h2, fun x hx => ?_, fun r hr => ?_⟩
 ·obtain ⟨_, _, _, _, _, _, _, n⟩ := h3 x hx
  exact n
 ·rcases List.mem_cons.1 hr with rfl | hr
  ·exact h1.rdIn
  ·obtain ⟨x, hx, hr⟩ := List.mem_flatMap.1 hr
   obtain ⟨vm, vd, vr, hv, o1, o2, o3, _⟩ := h3 x hx
   simp only [TV.val, txnV, Value.agg.injEq, Array.mk.injEq, List.cons.injEq, and_true, true_and] at hv
   obtain ⟨e1, e2, e3⟩ := hv
   subst e1 e2 e3
   simp only [List.mem_cons, List.not_mem_nil, or_false] at hr
   rcases hr with rfl | rfl | rfl
   ·exact o1.rdIn
   ·exact o2.rdIn
   ·exact o3.rdIn
theorem St.txns {S : List Nat} {w0 w : World} {L : List Ent} {R : List Rd} (X : St S w0 w L R) {v : Value} {xs : List TV} (hf : ∀ x ∈ xs, x.fits) (hl : xs.length ≤ 1099511627744) (h : ∀ r ∈ txR v xs, r ∈ R) : RTxns w v (xs.map (·.t)) := by
 refine ⟨xs, (X.rd _ (h _ (.head _))).1, rfl, fun x hx => ?_, hl⟩
 have hm := fun r hr => (X.rd r (h r (.tail _ (List.mem_flatMap.2 ⟨x, hx, hr⟩)))).1
 exact ⟨x.m.val, x.d.val, x.r.val, rfl, hm _ (.head _), hm _ (.tail _ (.head _)), hm _ (.tail _ (.tail _ (.head _))), hf x hx⟩
theorem St.addOTxns {S : List Nat} {w0 w w' : World} {L : List Ent} {R : List Rd} (X : St S w0 w L R) (hb : Below w.heap.size w w') {tt tc ti : TypeId} {v : Value} {l : List Txn} (h : OTxns w.heap.size tt tc ti w' v l) :
    ∃ xs : List TV, xs.map (·.t) = l ∧ (∀ x ∈ xs, x.fits) ∧ St S w0 w' L (txR v xs ++ R) := by
 obtain ⟨xs, h1, h2, h3⟩ := h.rdIn
 exact ⟨xs, h1, h2, (X.call hb).addRs (fun e he => (X.blk e he).lt) h3⟩
theorem St.dskM {S : List Nat} {w0 w : World} {L : List Ent} {R : List Rd} {as_ aw : Option Addr} {cs cw : Nat} {d : Dsk} (X : St S w0 w L R) (h3 : d.safe.length ≤ 8796093022208) (h4 : d.writes.length ≤ 5864062014805) (h : ∀ r ∈ dskR as_ cs aw cw d, r ∈ R) :
    RDisk w (.agg #[.slice as_ d.safe.length cs, .slice aw d.writes.length cw]) d := ⟨_, _, rfl, (X.rd _ (h _ (.head _))).1, (X.rd _ (h _ (.tail _ (.head _)))).1, h3, h4⟩
theorem RL.take {α : Type} {f : α → List Value} {w : World} {a : Option Addr} {n cap : Nat} {l : List α} (h : RL f w (.slice a n cap) l) {k : Nat} (hk : k ≤ l.length) : RL f w (.slice a k cap) (l.take k) := by
 obtain ⟨a', cap', hv, h1, h2, h3⟩ := h
 simp only [Value.slice.injEq] at hv
 obtain ⟨rfl, rfl, rfl⟩ := hv
 have hl : (l.take k).length = k := by rw [List.length_take]; omega
 refine ⟨a, cap, by rw [hl], by omega, h2, ?_⟩
 have hp : l.flatMap f = (l.take k).flatMap f ++ (l.drop k).flatMap f := by rw [← List.flatMap_append, List.take_append_drop]
 rcases h3 with h3 | ⟨b, off, ha, hc⟩
 ·rw [hp] at h3
  exact .inl (List.append_eq_nil_iff.1 h3).1
 ·refine .inr ⟨b, off, ha, fun j u hj => hc j u ?_⟩
  have hlt : j < ((l.take k).flatMap f).length := (List.getElem?_eq_some_iff.1 hj).1
  rw [hp, List.getElem?_append_left hlt]; exact hj
end Wb
namespace Go.Proofs.YtjhmfljlclajnacDoor
open Go.RowKit Wb
set_option maxRecDepth 100000
set_option maxHeartbeats 2000000
theorem disk_Crash_bad (d : Dsk) (draw : Int) (v : Value) (w : World) (hd : RDisk w v d) (h : ¬ (goodD d = true ∧ 0 ≤ draw)) :
    Calls Tryd.prog 13 #[v, .int .i64 draw] w fun e w' => ∃ v', e = .returned (.tuple #[v', .int .i64 (crashE d draw)]) ∧ RDisk w' v' (crashD d draw) ∧ NewD w.heap.size w' v v' d (crashD d draw) ∧ Below w.heap.size w w' := by
 have hG := fun w (hh : RDisk w v d) => disk_Good d v w hh
 have hd2 := hd
 obtain ⟨vs, vw, rfl, hs, hw, n1, n2⟩ := hd
 obtain ⟨a, cap, rfl, ca1, ca2⟩ := hs.form
 obtain ⟨b, bcap, rfl, cb1, cb2⟩ := hw.form
 have he : crashE d draw = 2 := by unfold crashE; rw [if_neg h]
 have hv : crashD d draw = d := by unfold crashD; rw [if_neg h]
 rw [hv, he]
 clear he hv hs hw
 replace hd2 := hid hd2
 by_cases hg : goodD d = true
 ·have hneg : draw < 0 := Int.not_le.1 (fun hh => h ⟨hg, hh⟩)
  rw [hg] at hG
  clear hg h
  replace hG := hid hG
  go_enter Tryd.func13, Tryd.ntmps13
  go_wp2_with (go_at_call 20; refine (hG.out _ (hd2.out.below (by exact Zlo))).mono ?_; rintro e w1 ⟨rfl, hb1⟩; obtain ⟨hbc, hbf⟩ := bcell hb1; have hbz := hb1.size; try simp only [World.size_alloc, World.size_setCell, World.size_drew] at hbz; have hz0 := Nat.lt_of_lt_of_le (n := w.heap.size) (by omega) hbz; have hz1 := Nat.lt_of_lt_of_le (n := w.heap.size + 1) (by omega) hbz)
  exact bodyPost_ret (v := .tuple #[.agg #[.slice a d.safe.length cap, .slice b d.writes.length bcap], .int .i64 2]) (by simp [results, Tryd.results13, go_sem, hbc]) rfl ⟨_, rfl, hd2.out.below (by exact Zlo), hd2.out.same _, by exact Zlo⟩
 ·rw [Bool.not_eq_true _ |>.mp hg] at hG
  clear hg h
  replace hG := hid hG
  go_enter Tryd.func13, Tryd.ntmps13
  go_wp2_with (go_at_call 20; refine (hG.out _ (hd2.out.below (by exact Zlo))).mono ?_; rintro e w1 ⟨rfl, hb1⟩; obtain ⟨hbc, hbf⟩ := bcell hb1; have hbz := hb1.size; try simp only [World.size_alloc, World.size_setCell, World.size_drew] at hbz; have hz0 := Nat.lt_of_lt_of_le (n := w.heap.size) (by omega) hbz; have hz1 := Nat.lt_of_lt_of_le (n := w.heap.size + 1) (by omega) hbz)
  exact bodyPost_ret (v := .tuple #[.agg #[.slice a d.safe.length cap, .slice b d.writes.length bcap], .int .i64 2]) (by simp [results, Tryd.results13, go_sem, hbc]) rfl ⟨_, rfl, hd2.out.below (by exact Zlo), hd2.out.same _, by exact Zlo⟩
theorem disk_Crash_good (d : Dsk) (x : Nat) (v : Value) (w : World) (hd : RDisk w v d) (hg : goodD d = true) (hx : x ≤ 9223372036854775807) :
    Calls Tryd.prog 13 #[v, .int .i64 (x : Int)] w fun e w' => ∃ v', e = .returned (.tuple #[v', .int .i64 0]) ∧ RDisk w' v' ⟨crashL d x d.safe.length, []⟩ ∧ NewD w.heap.size w' v v' d ⟨crashL d x d.safe.length, []⟩ ∧ Below w.heap.size w w' := by
 have hG := fun w (hh : RDisk w v d) => disk_Good d v w hh
 have hd2 := hd
 obtain ⟨vs, vw, rfl, hs, hw, n1, n2⟩ := hd
 obtain ⟨a, cap, rfl, ca1, ca2⟩ := hs.form
 obtain ⟨b, bcap, rfl, cb1, cb2⟩ := hw.form
 rw [hg] at hG
 obtain ⟨g1, g2, _, _⟩ := (goodD_iff d).1 hg
 clear hg
 have hC := fun v w (hh : RL strC w v d.safe) => clone_Strings d.safe v w hh n1
 have hset := fun (k : Nat) (hk : k < d.safe.length) => mixL_set d x hk
 have hlen := fun (k : Nat) (hk : k ≤ d.safe.length) => mixL_len d x hk
 have hget := fun (k : Nat) => crashAt_get d x k (Nat.mod_lt _ (textsAt_pos d k))
 have hpos := fun (k : Nat) => textsAt_pos d k
 have hle := fun (k : Nat) => textsAt_le d k
 have hdr := fun (k : Nat) => drawAt_le d x k
 have hds := fun (k : Nat) => drawAt_succ d x k
 have htx := fun (k : Nat) (hk : k < d.safe.length) => textsAt_eq d hk
 have hhit := fun (n k : Nat) (hn : n < d.safe.length) (hk : k < d.writes.length) => afterL_hit d.safe[n] n hk
 have hmiss := fun (n k : Nat) (hn : n < d.safe.length) (hk : k < d.writes.length) => afterL_miss d.safe[n] n hk
 have hal := fun (n k : Nat) (hn : n < d.safe.length) => afterL_len d.safe[n] n (d.writes.take k)
 have hm0 := mixL_zero d x
 have hmf := mixL_full d x
 have hcl := crashL_len d x d.safe.length
 replace hd2 := hid hd2; replace hG := hid hG; replace hC := hid hC; replace hs := hid hs; replace hw := hid hw; replace hset := hid hset; replace hlen := hid hlen
 replace hget := hid hget; replace hpos := hid hpos; replace hle := hid hle; replace hdr := hid hdr; replace hds := hid hds; replace htx := hid htx; replace hhit := hid hhit; replace hmiss := hid hmiss; replace hal := hid hal
 replace hm0 := hid hm0; replace hmf := hid hmf; replace hcl := hid hcl; replace g1 := hid g1
 go_enter Tryd.func13, Tryd.ntmps13
 go_wp2_with (first
  | (go_at_call 20; refine (hG.out _ (hd2.out.below (by exact Zlo))).mono ?_; rintro e w1 ⟨rfl, hb1⟩; obtain ⟨hbc, hbf⟩ := bcell hb1; have hbz := hb1.size; try simp only [World.size_alloc, World.size_setCell, World.size_drew] at hbz; have hz0 := Nat.lt_of_lt_of_le (n := w.heap.size) (by omega) hbz; have hz1 := Nat.lt_of_lt_of_le (n := w.heap.size + 1) (by omega) hbz)
  | (go_at_call 21; go_loud (refine (hC.out _ _ (hs.out.below (by exact Zlo))).mono ?_; rintro e w3 ⟨v3, rfl, hown3, hb3⟩; obtain ⟨a3, cap3, rfl⟩ := hown3.form; have k0 : Blk w3 w.heap.size #[.slice a d.safe.length cap, .slice b d.writes.length bcap] 25 := (((Blk.new w _ _).alloc _).step hb1).step hb3; have k1 : Blk w3 (w.heap.size + 1) #[.slice none 0 0, .slice none 0 0] 25 := ((Blk.newAt (w := w.alloc _) (by simp)).step hb1).step hb3; have hnx3 : Below w.heap.size w w3 := (by exact Zlo); have lt1 := k1.lt; have lt0 := k0.lt; have c0 := k0.cell 0; have c1 := k0.cell 1; simp only [Zga, Zgb, Zgc] at c0 c1; have og := fun g (hh : Value.ownBlock (.slice a3 d.safe.length cap3) = some g) => World.ownsRow.lt hown3 g hh; replace og := hid og; have lz := hb1.size; clear hbc hbf hbz hb1 hb3)))
 have hz1w : w.heap.size + 1 < w1.heap.size := by (try simp at lz); omega
 have o0 := hown3
 rw [← hm0.out] at o0
 go_loopw [1, 26] (fun s1 i wr => ∃ k : Nat, k ≤ d.safe.length ∧ i = .int .i64 k ∧ s1 = .int .i64 (drawAt d x k : Nat) ∧ Wb.Own strC w1.heap.size 9 1 wr (.slice a3 d.safe.length cap3) (mixL d x k) ∧ Blk wr w.heap.size #[.slice a d.safe.length cap, .slice b d.writes.length bcap] 25 ∧ Blk wr (w.heap.size + 1) #[.slice none 0 0, .slice none 0 0] 25 ∧ Blk wr w3.heap.size #[.slice a3 d.safe.length cap3, .slice none 0 0] 25 ∧ Below w.heap.size w wr) (fun _ i _ => d.safe.length - (intOf i).toNat)
 case atStart => exact ⟨0, Nat.zero_le _, rfl, rfl, o0.alloc _, k0.alloc _, k1.alloc _, Blk.new _ _ _, allocB hnx3 (by omega) _⟩
 case round =>
  clear k0 k1 hnx3 lt0 lt1 c0 c1 o0 hown3
  obtain ⟨wo, rfl⟩ : ∃ wo : World, wo = wr := ⟨_, rfl⟩
  obtain ⟨k, hk, rfl, rfl, hown, k0, k1, k2, hnx⟩ := hrel
  have lt0 := k0.lt
  have lt1 := k1.lt
  have lt2 := k2.lt
  have c0 := k0.cell 0
  have c1 := k0.cell 1
  have c2 := k1.cell 0
  have c3 := k1.cell 1
  have c4 := k2.cell 0
  have c5 := k2.cell 1
  simp only [Zga, Zgb, Zgc] at c0 c1 c2 c3 c4 c5
  by_cases hlt : k < d.safe.length
  ·obtain ⟨b2, off, rfl, d0⟩ := RL.at1 (fun x => .string x) (fun _ => rfl) (hs.out.below hnx) hlt
   have ld := World.block_lt_of_cell? _ _ d0
   dsimp only at ld
   have hset := hset.out k hlt
   have hget := hget.out k
   have hpos := hpos.out k
   have hle := hle.out k
   have hdr := hdr.out k
   have hds := hds.out k
   have htx := htx.out k hlt
   have hhit := fun j hj => hhit.out k j hlt hj
   have hmiss := fun j hj => hmiss.out k j hlt hj
   have hal := fun j => hal.out k j hlt
   have hml := hlen.out k (by omega)
   generalize mixL d x k = M at *
   replace hset := hid hset; replace hget := hid hget; replace hds := hid hds; replace htx := hid htx; replace hhit := hid hhit; replace hmiss := hid hmiss; replace hal := hid hal; replace hml := hid hml; replace hpos := hid hpos; replace hle := hid hle
   obtain ⟨sk, hsk⟩ : ∃ sk, sk = d.safe[k] := ⟨_, rfl⟩
   rw [← hsk] at d0 htx hhit hmiss hal
   clear hsk
   generalize drawAt d x k = y at *
   go_wp2
   have kl : Blk (wo.alloc (.cells #[.string sk] 9)) wo.heap.size #[.string sk] 9 := Blk.new wo _ _
   go_loopw [8, 10, 38] (fun l _ i wi => ∃ j : Nat, j ≤ d.writes.length ∧ i = .int .i64 j ∧ Wb.Own strC wo.heap.size 9 1 wi l (afterL sk k (d.writes.take j)) ∧ Below wo.heap.size wo wi ∧ wo.heap.size < wi.heap.size) (fun _ _ i _ => d.writes.length - (intOf i).toNat)
   case atStart =>
    refine ⟨0, Nat.zero_le _, rfl, ?_, bal (b0 wo) _, by simp⟩
    rw [List.take_zero, afterL_nil]
    exact Own.lit (f := strC) strC_flat wo.heap.size 9 wo [sk] (by simp) (by show 1 ≤ maxLen; decide) rfl (by simp) rfl
   case round =>
    obtain ⟨j, hj, rfl, hl, hbi, hzi⟩ := hrel
    by_cases hlt2 : j < d.writes.length
    ·obtain ⟨b3, off3, rfl, d1, d2⟩ := RL.at2 (fun x => .int .i64 x.at_) (fun x => .string x.text) (fun _ => rfl) ((hw.out.below hnx).below hbi) hlt2
     have ld3 := World.block_lt_of_cell? _ _ d1
     dsimp only at ld3
     by_cases heq : d.writes[j].at_ = k
     ·have hh := hhit.out j hlt2 heq
      have hq := hal.out j
      rw [List.length_take] at hq
      have e1 : (d.writes[j].at_ == (k : Int)) = true := beq_iff_eq.2 heq
      replace hh := hid hh
      clear heq
      generalize d.writes[j] = xw at *
      generalize afterL sk k (d.writes.take j) = ls at *
      have hqq : ls.length ≤ 201 := by omega
      clear hq
      go_wp2_with (at_builtin; go_loud (refine wpList_push rfl _ _ _ rfl wo.heap.size _ 1 16 strC_flat elemStr (hl.alloc _) rfl xw.text rfl rfl ?c1 ?c2 ?c3 ?c4))
      all_goals try (case c1 => omega)
      all_goals try (case c2 => unfold maxLen; omega)
      all_goals try (case c3 => simp; omega)
      case c4 =>
       intro v7 w7 hown7 hbel7 _
       rw [← hh.out] at hown7
       have hz7 := hbel7.size
       go_wp2
       go_roundw
       case rel => exact ⟨j + 1, by omega, by go_num, hown7, (allocB hbi (by omega) _).trans (hbel7.mono (by omega)), by simp at hz7; omega⟩
       case measure => simp [intOf]; omega
     ·have hh := hmiss.out j hlt2 heq
      have e1 : (d.writes[j].at_ == (k : Int)) = false := beq_eq_false_iff_ne.2 heq
      replace hh := hid hh
      clear heq
      generalize d.writes[j] = xw at *
      go_wp2
      go_roundw
      case rel => exact ⟨j + 1, by omega, by go_num, by rw [hh.out]; exact hl.alloc _, allocB hbi (by omega) _, by simp; omega⟩
      case measure => simp [intOf]; omega
    ·rw [List.take_of_length_le (by omega), ← htx.out] at hl
     obtain ⟨al, capl, rfl⟩ := hl.form
     have k0 := k0.step hbi
     have k1 := k1.step hbi
     have k2 := k2.step hbi
     have hown := hown.below hbi
     have hnx := hnx.trans (hbi.mono (by omega))
     clear c0 c1 c2 c3 c4 c5 lt0 lt1 lt2 d0 ld kl
     have lt2 := k2.lt
     have c4 := k2.cell 0
     simp only [Zga, Zgb, Zgc] at c4
     replace hpos := hpos.out
     replace hle := hle.out
     replace hget := hget.out
     replace hds := hds.out
     have hmx := Nat.mod_lt y hpos
     have hmi : ((y : Int) % ((textsAt d k).length : Int)) = ((y % (textsAt d k).length : Nat) : Int) := rfl
     have hmt : ((y : Int).tmod ((textsAt d k).length : Int)) = ((y % (textsAt d k).length : Nat) : Int) := rfl
     have hdi : ((y : Int) / ((textsAt d k).length : Int)) = ((y / (textsAt d k).length : Nat) : Int) := rfl
     have hdt : ((y : Int).tdiv ((textsAt d k).length : Int)) = ((y / (textsAt d k).length : Nat) : Int) := rfl
     rw [← hds] at hdi hdt
     generalize hye : drawAt d x (k + 1) = y2 at *
     replace hye := hid hye
     obtain ⟨bl, offl, rfl, z0⟩ := RL.at1 (fun x => .string x) (fun _ => rfl) hl.reads hmx
     rw [hget] at z0
     clear hget
     replace hds := hid hds
     generalize y % (textsAt d k).length = q at *
     generalize crashAt d x k = t at *
     generalize textsAt d k = ls at *
     have hne0 : ((ls.length : Int) == 0) = false := beq_eq_false_iff_ne.2 (by omega)
     have hm := hml.out
     obtain ⟨g, cap4, hv, hgb, hgl, hgc, hpk⟩ := hown.poke strC_flat (k := k) (by omega)
     simp only [Value.slice.injEq] at hv
     obtain ⟨rfl, _, rfl⟩ := hv
     obtain ⟨z2, z3⟩ := hgc 0 (by decide)
     replace hpk := hpk 0 t (.string t) (by decide) rfl
     rw [hset.out, Nat.mul_one, Nat.add_zero] at hpk
     simp only [Nat.mul_one, Nat.add_zero, strC, List.getElem?_cons_zero] at z2 z3
     replace hpk := hid hpk
     have hne := og.out g rfl
     have hm3 : k < M.length := by omega
     obtain ⟨old, hold⟩ : ∃ o, M[k] = o := ⟨_, rfl⟩
     rw [hold] at z3
     clear hold hm hown hgc hm3
     have hq2 : (q : Int) < (ls.length : Int) := by omega
     have hk2 : (k : Int) < (d.safe.length : Int) := by omega
     have lz0 := World.block_lt_of_cell? _ _ z0
     dsimp only at lz0
     have hy0 : (y : Int) ≤ 9223372036854775807 := by omega
     have hys : y2 ≤ y := by rw [hds.out]; exact Nat.div_le_self _ _
     have hy2 : IntKind.i64.wrap (y2 : Int) = y2 := IntWalk.i64_in _ (by omega)
     go_wp2
     go_region
     all_goals
      go_wp2
      go_roundw
      case rel => exact ⟨k + 1, by omega, by go_num, by rw [hye.out], hpk.out, k0.drew.set_other _ _ (by simp; omega), k1.drew.set_other _ _ (by simp; omega), k2.drew.set_other _ _ (by simp; omega), hnx.drew.setCell (by simp; omega) _⟩
      case measure => simp [intOf]; omega
  ·obtain rfl : k = d.safe.length := by omega
   rw [hmf.out] at hown
   have f1 := k1.free 0
   have f2 := k1.free 1
   have hcl2 := hcl.out
   go_wp2
   have hF : Below w.heap.size w ((wo.setCell ⟨w.heap.size + 1, 0, none⟩ (.slice a3 d.safe.length cap3)).setCell ⟨w.heap.size + 1, 1, none⟩ (.slice none 0 0)) := (hnx.setCell (by simp) _).setCell (by simp) _
   have ho := (hown.setCell (p := ⟨w.heap.size + 1, 0, none⟩) (by simp; omega) (.slice a3 d.safe.length cap3)).setCell (p := ⟨w.heap.size + 1, 1, none⟩) (by simp; omega) (.slice none 0 0)
   refine bodyPost_ret (v := .tuple #[.agg #[.slice a3 d.safe.length cap3, .slice none 0 0], .int .i64 0]) (by simp [results, Tryd.results13, go_sem, c2, c3]) rfl ⟨_, rfl, ⟨_, _, rfl, ho.reads, RL.nil _ _, by rw [hcl.out]; exact n1, by simp⟩, ⟨_, _, _, _, rfl, rfl, ho.slot (by omega), .nil⟩, hF⟩
theorem disk_CrashN (d : Dsk) (draw : Int) (v : Value) (w : World) (hd : RDisk w v d) (hx : draw ≤ 9223372036854775807) :
    Calls Tryd.prog 13 #[v, .int .i64 draw] w fun e w' => ∃ v', e = .returned (.tuple #[v', .int .i64 (crashE d draw)]) ∧ RDisk w' v' (crashD d draw) ∧ NewD w.heap.size w' v v' d (crashD d draw) ∧ Below w.heap.size w w' := by
 by_cases h : goodD d = true ∧ 0 ≤ draw
 ·obtain ⟨hg, h0⟩ := h
  have he : crashE d draw = 0 := by unfold crashE; rw [if_pos ⟨hg, h0⟩]
  have hv : crashD d draw = ⟨crashL d draw.toNat d.safe.length, []⟩ := by unfold crashD; rw [if_pos ⟨hg, h0⟩]
  rw [he, hv]
  have := disk_Crash_good d draw.toNat v w hd hg (by omega)
  rwa [Int.toNat_of_nonneg h0] at this
 ·exact disk_Crash_bad d draw v w hd h
theorem disk_Crash (d : Dsk) (draw : Int) (v : Value) (w : World) (hd : RDisk w v d) (hx : draw ≤ 9223372036854775807) :
    Calls Tryd.prog 13 #[v, .int .i64 draw] w fun e w' => ∃ v', e = .returned (.tuple #[v', .int .i64 (crashE d draw)]) ∧ RDisk w' v' (crashD d draw) ∧ Below w.heap.size w w' :=
 (disk_CrashN d draw v w hd hx).mono fun e w' ⟨v', h1, h2, _, h3⟩ => ⟨v', h1, h2, h3⟩
end Go.Proofs.YtjhmfljlclajnacDoor
namespace Wb
open Go Go.RowKit
def OFnd (base : Nat) (tt tc ti : TypeId) (w : World) (v : Value) (F : Fnd) : Prop := ∃ vt, v = .agg #[vt, .int .i64 F.next, .int .i64 F.at_] ∧ OTxns base tt tc ti w vt F.txns
theorem OTxn.grownBlk {base : Nat} {tc ti : TypeId} {w w' : World} {v : Value} {t : Txn} (h : OTxn base tc ti w v t) {b : Nat} {cs : Array Value} {e : TypeId} (hb : Blk w b cs e) (hc : tc ≠ e) (hi : ti ≠ e) (hg : w.grownBy w' (some b)) : OTxn base tc ti w' v t := by
 obtain ⟨vm, vd, vr, hv, h1, h2', h3, h4⟩ := h
 exact ⟨vm, vd, vr, hv, h1.grownBlk hb hc hg, h2'.grownBlk hb hc hg, h3.grownBlk hb hi hg, h4⟩
theorem OTxn.setCell {base : Nat} {tc ti : TypeId} {w : World} {v : Value} {t : Txn} (h : OTxn base tc ti w v t) {p : Addr} (hp : p.block < base) (u : Value) : OTxn base tc ti (w.setCell p u) v t := by
 obtain ⟨vm, vd, vr, hv, h1, h2', h3, h4⟩ := h
 exact ⟨vm, vd, vr, hv, h1.setCell hp u, h2'.setCell hp u, h3.setCell hp u, h4⟩
theorem OTxns.grownBlk {base : Nat} {tt tc ti : TypeId} {w w' : World} {v : Value} {l : List Txn} (h : OTxns base tt tc ti w v l) {b : Nat} {cs : Array Value} {e : TypeId} (hb : Blk w b cs e) (ht : tt ≠ e) (hc : tc ≠ e) (hi : ti ≠ e) (hg : w.grownBy w' (some b)) : OTxns base tt tc ti w' v l := by
 obtain ⟨xs, h1, h2, h3⟩ := h
 exact ⟨xs, h1.grownBlk hb ht hg, h2, fun x hx => (h3 x hx).grownBlk hb hc hi hg⟩
theorem OTxns.setCell {base : Nat} {tt tc ti : TypeId} {w : World} {v : Value} {l : List Txn} (h : OTxns base tt tc ti w v l) {p : Addr} (hp : p.block < base) (u : Value) : OTxns base tt tc ti (w.setCell p u) v l := by
 obtain ⟨xs, h1, h2, h3⟩ := h
 exact ⟨xs, h1.setCell hp u, h2, fun x hx => (h3 x hx).setCell hp u⟩
end Wb
