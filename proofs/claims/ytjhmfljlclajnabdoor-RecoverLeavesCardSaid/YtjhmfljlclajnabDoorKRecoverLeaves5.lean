/- The walk of CopyTxn. Counting blocks. No program in sight. An element of an array value. No program in sight. The walk of GoodTxn. The walk of NewestOf. The walks of the law's lists of transactions: txns, good. The walk of disk.Read. The walk of the reader's next. The walk of the reader's one. -/
import Derived.Test.YtjhmfljlclajnabDoorKRecoverLeaves4
import Derived.Test.YtjhmfljlclajnabDoorRegApp
import Derived.Test.YtjhmfljlclajnabDoorBytes
import Derived.Test.YtjhmfljlclajnabDoorKRecoverLeaves2
import Derived.Test.YtjhmfljlclajnabDoorBase
import Derived.Test.YtjhmfljlclajnabDoorStampR
import Derived.Laws.Rows
import Derived.Test.YtjhmfljlclajnabDoorKRecoverLeaves3
import Derived.Test.YtjhmfljlclajnabDoorRegCall
import Derived.Deep.QuietTactic
import Derived.Test.YtjhmfljlclajnabDoorDecA
import Derived.Deep.LoopGhost
set_option linter.unusedVariables false
set_option linter.unusedSimpArgs false
namespace Wb
open Go Go.RowKit
theorem Own.setCells {α : Type} {f : α → List Value} {base : Nat} {e : TypeId} {c : Nat} {v : Value} {l : List α} : ∀ (ps : List (Addr × Value)) (w : World), Own f base e c w v l → (∀ p ∈ ps, p.1.block < base) → Own f base e c (ps.foldl (fun w p => w.setCell p.1 p.2) w) v l
  | [], _, h, _ => h
  | p :: ps, w, h, hp => Own.setCells ps _ (h.setCell (hp p (by simp)) p.2) (fun q hq => hp q (by simp [hq]))
theorem Below.setCells {B : Nat} {w : World} : ∀ (ps : List (Addr × Value)) (w' : World), Below B w w' → (∀ p ∈ ps, B ≤ p.1.block) → Below B w (ps.foldl (fun w p => w.setCell p.1 p.2) w')
  | [], _, h, _ => h
  | p :: ps, w', h, hp => Below.setCells ps _ (h.setCell (hp p (by simp)) p.2) (fun q hq => hp q (by simp [hq]))
end Wb
namespace Go.Proofs.YtjhmfljlclajnabDoor
open Go.RowKit Wb
set_option linter.unusedVariables false
set_option linter.unusedSimpArgs false
set_option maxRecDepth 100000
set_option maxHeartbeats 4000000
theorem elemIntT : Elem Tryd.prog 25 3 1 8 := Elem.mk' (z := .int .i64 0) Tryd.underlying25 (by kernel_rfl) rfl

theorem ref_CopyTxn (t : Txn) (v : Value) (w : World) (h : RTxn w v t) :
    Calls Tryd.prog 7 #[v] w fun e w' => ∃ v', e = .returned v' ∧ OTxn w.heap.size 74 3 w' v' t ∧ Below w.heap.size w w' := by
  obtain ⟨vm, vd, vr, rfl, hm, hd, hr, n1, n2, n3⟩ := h
  obtain ⟨am, cm, rfl, _⟩ := hm.form
  obtain ⟨ad, cd, rfl, _⟩ := hd.form
  obtain ⟨ar, cr, rfl, _⟩ := hr.form
  obtain ⟨seq, mt, dt, rev, ⟨on0, l0⟩, ⟨on1, l1⟩, ⟨on2, l2⟩⟩ := t
  unfold txnV OTxn
  dsimp only at *
  replace hm := hid hm; replace hd := hid hd; replace hr := hid hr
  go_enter Tryd.func7, Tryd.ntmps7
  go_wp2
  go_region_law (first
    | (refine step_app rfl _ _ 24 rfl _ _ 2 24 cpyC_flat elemCpy (Own.nil _ _ _ _ _) rfl mt (hm.out.below (bal (bal (b0 w) _) _).drew) rfl (by simp; omega) (by simp; unfold maxLen; omega) (Nat.le_refl _) ?_; intro v1 w1 hown1 hb1 _; obtain ⟨a1, cap1, rfl⟩ := hown1.form; have k0 : Blk w1 w.heap.size #[.int .i64 seq, .slice am mt.length cm, .slice ad dt.length cd, .slice ar rev.length cr, .bool on0, .int .i64 l0, .bool on1, .int .i64 l1, .bool on2, .int .i64 l2] 30 := (((Blk.new w _ _).alloc _).drew).step hb1; have k1 : Blk w1 (w.heap.size + 1) #[.int .i64 0, .slice none 0 0, .slice none 0 0, .slice none 0 0, .bool false, .int .i64 0, .bool false, .int .i64 0, .bool false, .int .i64 0] 30 := ((Blk.newAt (w := w.alloc _) (by simp)).drew).step hb1; have nx := bgo (bal (bal (b0 w) _) _).drew hb1; have c1 := k0.cell 1; have c2 := k0.cell 2; have c3 := k0.cell 3; simp only [List.getElem?_toArray, List.getElem?_cons_zero, List.getElem?_cons_succ] at c1 c2 c3; simp only [List.nil_append] at hown1)
    | (refine step_app rfl _ _ 24 rfl _ _ 2 24 cpyC_flat elemCpy (Own.nil _ _ _ _ _) rfl dt (hd.out.below nx) rfl (by simp; omega) (by simp; unfold maxLen; omega) (Nat.le_refl _) ?_; intro v2 w2 hown2 hb2 _; obtain ⟨a2, cap2, rfl⟩ := hown2.form; replace k0 := k0.step hb2; replace k1 := k1.step hb2; have nx := bgo nx hb2; replace hown1 := hown1.below hb2; clear c1 c2 c3; have c1 := k0.cell 1; have c2 := k0.cell 2; have c3 := k0.cell 3; simp only [List.getElem?_toArray, List.getElem?_cons_zero, List.getElem?_cons_succ] at c1 c2 c3; simp only [List.nil_append] at hown2)
    | (refine step_app rfl _ _ 25 rfl _ _ 1 8 intC_flat elemIntT (Own.nil _ _ _ _ _) rfl rev (hr.out.below nx) rfl (by simp; omega) (by simp; unfold maxLen; omega) (Nat.le_refl _) ?_; intro v3 w3 hown3 hb3 _; obtain ⟨a3, cap3, rfl⟩ := hown3.form; replace k0 := k0.step hb3; replace k1 := k1.step hb3; have nx := bgo nx hb3; replace hown1 := hown1.below hb3; replace hown2 := hown2.below hb3; clear c1 c2 c3; have c1 := k0.cell 1; have c2 := k0.cell 2; have c3 := k0.cell 3; have f1 := k0.free 1; have f2 := k0.free 2; have f3 := k0.free 3; simp only [List.getElem?_toArray, List.getElem?_cons_zero, List.getElem?_cons_succ] at c1 c2 c3; simp only [List.nil_append] at hown3))
  all_goals
    have k0' := ((k0.set 1 (.slice a1 mt.length cap1)).set 2 (.slice a2 dt.length cap2)).set 3 (.slice a3 rev.length cap3)
    have k1' := ((k1.set_other ⟨w.heap.size, 1, none⟩ (.slice a1 mt.length cap1) (by simp)).set_other ⟨w.heap.size, 2, none⟩ (.slice a2 dt.length cap2) (by simp)).set_other ⟨w.heap.size, 3, none⟩ (.slice a3 rev.length cap3) (by simp)
    have nx' := ((nx.setCell (p := ⟨w.heap.size, 1, none⟩) (by simp) (.slice a1 mt.length cap1)).setCell (p := ⟨w.heap.size, 2, none⟩) (by simp) (.slice a2 dt.length cap2)).setCell (p := ⟨w.heap.size, 3, none⟩) (by simp) (.slice a3 rev.length cap3)
    have o1 := ((hown1.mono (base' := w.heap.size + 2) (by simp)).setCell (p := ⟨w.heap.size, 1, none⟩) (by simp) (.slice a1 mt.length cap1)).setCell (p := ⟨w.heap.size, 2, none⟩) (by simp) (.slice a2 dt.length cap2) |>.setCell (p := ⟨w.heap.size, 3, none⟩) (by simp) (.slice a3 rev.length cap3)
    have hz1 : w.heap.size + 2 ≤ w1.heap.size := by have := hb1.size; simpa using this
    have hz2 : w.heap.size + 2 ≤ w2.heap.size := Nat.le_trans hz1 hb2.size
    have o2 := ((hown2.mono (base' := w.heap.size + 2) hz1).setCell (p := ⟨w.heap.size, 1, none⟩) (by simp) (.slice a1 mt.length cap1)).setCell (p := ⟨w.heap.size, 2, none⟩) (by simp) (.slice a2 dt.length cap2) |>.setCell (p := ⟨w.heap.size, 3, none⟩) (by simp) (.slice a3 rev.length cap3)
    have o3 := ((hown3.mono (base' := w.heap.size + 2) hz2).setCell (p := ⟨w.heap.size, 1, none⟩) (by simp) (.slice a1 mt.length cap1)).setCell (p := ⟨w.heap.size, 2, none⟩) (by simp) (.slice a2 dt.length cap2) |>.setCell (p := ⟨w.heap.size, 3, none⟩) (by simp) (.slice a3 rev.length cap3)
    clear k0 k1 nx hown1 hown2 hown3 c1 c2 c3 f1 f2 f3 hb1 hb2 hb3
    generalize (((w3.setCell ⟨w.heap.size, 1, none⟩ (.slice a1 mt.length cap1)).setCell ⟨w.heap.size, 2, none⟩ (.slice a2 dt.length cap2)).setCell ⟨w.heap.size, 3, none⟩ (.slice a3 rev.length cap3)) = w4 at *
    replace k0' : Blk w4 w.heap.size #[.int .i64 seq, .slice a1 mt.length cap1, .slice a2 dt.length cap2, .slice a3 rev.length cap3, .bool on0, .int .i64 l0, .bool on1, .int .i64 l1, .bool on2, .int .i64 l2] 30 := k0'
    have c0 := k0'.cell 0; have c1 := k0'.cell 1; have c2 := k0'.cell 2; have c3 := k0'.cell 3; have c4 := k0'.cell 4; have c5 := k0'.cell 5; have c6 := k0'.cell 6; have c7 := k0'.cell 7; have c8 := k0'.cell 8; have c9 := k0'.cell 9
    have d0 := k1'.cell 0; have d1 := k1'.cell 1; have d2 := k1'.cell 2; have d3 := k1'.cell 3; have d4 := k1'.cell 4; have d5 := k1'.cell 5; have d6 := k1'.cell 6; have d7 := k1'.cell 7; have d8 := k1'.cell 8; have d9 := k1'.cell 9
    have z0 := k1'.free 0; have z1 := k1'.free 1; have z2 := k1'.free 2; have z3 := k1'.free 3; have z4 := k1'.free 4; have z5 := k1'.free 5; have z6 := k1'.free 6; have z7 := k1'.free 7; have z8 := k1'.free 8; have z9 := k1'.free 9
    simp only [List.getElem?_toArray, List.getElem?_cons_zero, List.getElem?_cons_succ] at c0 c1 c2 c3 c4 c5 c6 c7 c8 c9 d0 d1 d2 d3 d4 d5 d6 d7 d8 d9
    go_wp2
    have e1 := o1.setCells [(⟨w.heap.size + 1, 0, none⟩, .int .i64 seq), (⟨w.heap.size + 1, 1, none⟩, .slice a1 mt.length cap1), (⟨w.heap.size + 1, 2, none⟩, .slice a2 dt.length cap2), (⟨w.heap.size + 1, 3, none⟩, .slice a3 rev.length cap3), (⟨w.heap.size + 1, 4, none⟩, .bool on0), (⟨w.heap.size + 1, 5, none⟩, .int .i64 l0), (⟨w.heap.size + 1, 6, none⟩, .bool on1), (⟨w.heap.size + 1, 7, none⟩, .int .i64 l1), (⟨w.heap.size + 1, 8, none⟩, .bool on2), (⟨w.heap.size + 1, 9, none⟩, .int .i64 l2)] _ (by simp)
    have e2 := o2.setCells [(⟨w.heap.size + 1, 0, none⟩, .int .i64 seq), (⟨w.heap.size + 1, 1, none⟩, .slice a1 mt.length cap1), (⟨w.heap.size + 1, 2, none⟩, .slice a2 dt.length cap2), (⟨w.heap.size + 1, 3, none⟩, .slice a3 rev.length cap3), (⟨w.heap.size + 1, 4, none⟩, .bool on0), (⟨w.heap.size + 1, 5, none⟩, .int .i64 l0), (⟨w.heap.size + 1, 6, none⟩, .bool on1), (⟨w.heap.size + 1, 7, none⟩, .int .i64 l1), (⟨w.heap.size + 1, 8, none⟩, .bool on2), (⟨w.heap.size + 1, 9, none⟩, .int .i64 l2)] _ (by simp)
    have e3 := o3.setCells [(⟨w.heap.size + 1, 0, none⟩, .int .i64 seq), (⟨w.heap.size + 1, 1, none⟩, .slice a1 mt.length cap1), (⟨w.heap.size + 1, 2, none⟩, .slice a2 dt.length cap2), (⟨w.heap.size + 1, 3, none⟩, .slice a3 rev.length cap3), (⟨w.heap.size + 1, 4, none⟩, .bool on0), (⟨w.heap.size + 1, 5, none⟩, .int .i64 l0), (⟨w.heap.size + 1, 6, none⟩, .bool on1), (⟨w.heap.size + 1, 7, none⟩, .int .i64 l1), (⟨w.heap.size + 1, 8, none⟩, .bool on2), (⟨w.heap.size + 1, 9, none⟩, .int .i64 l2)] _ (by simp)
    have e4 := Wb.Below.setCells [(⟨w.heap.size + 1, 0, none⟩, .int .i64 seq), (⟨w.heap.size + 1, 1, none⟩, .slice a1 mt.length cap1), (⟨w.heap.size + 1, 2, none⟩, .slice a2 dt.length cap2), (⟨w.heap.size + 1, 3, none⟩, .slice a3 rev.length cap3), (⟨w.heap.size + 1, 4, none⟩, .bool on0), (⟨w.heap.size + 1, 5, none⟩, .int .i64 l0), (⟨w.heap.size + 1, 6, none⟩, .bool on1), (⟨w.heap.size + 1, 7, none⟩, .int .i64 l1), (⟨w.heap.size + 1, 8, none⟩, .bool on2), (⟨w.heap.size + 1, 9, none⟩, .int .i64 l2)] _ nx' (by simp)
    refine bodyPost_ret (v := .agg #[.int .i64 seq, .slice a1 mt.length cap1, .slice a2 dt.length cap2, .slice a3 rev.length cap3, .bool on0, .int .i64 l0, .bool on1, .int .i64 l1, .bool on2, .int .i64 l2]) (by simp [results, Tryd.results7, go_sem, d0, d1, d2, d3, d4, d5, d6, d7, d8, d9]) rfl ⟨_, rfl, ⟨_, _, _, rfl, e1.mono (by omega), e2.mono (by omega), e3.mono (by omega), n1, n2, n3⟩, e4⟩
end Go.Proofs.YtjhmfljlclajnabDoor

namespace Wb
open Go Go.RowKit
def cntI (bs : List Int) (x : Int) : Int := (bs.countP (fun b => b == x) : Nat)
def cntL (bs : List Int) : List Int := (List.range 12).map fun (k : Nat) => cntI bs k
theorem cnt_append (l1 l2 : List Int) (x : Int) : cntI (l1 ++ l2) x = cntI l1 x + cntI l2 x := by simp [cntI]
theorem cnt_one (b x : Int) : cntI [b] x = if b = x then 1 else 0 := by
  by_cases h : b = x <;> simp [cntI, h]
theorem cntL_len (bs : List Int) : (cntL bs).length = 12 := by simp [cntL]
theorem cntL_nil : cntL [] = List.replicate 12 0 := rfl
theorem cntL_get (bs : List Int) {k : Nat} (hk : k < 12) : (cntL bs)[k]'(by rw [cntL_len]; exact hk) = cntI bs k := by simp [cntL]
theorem cnt_nonneg (bs : List Int) (x : Int) : 0 ≤ cntI bs x := by unfold cntI; omega
theorem cnt_le (bs : List Int) (x : Int) : cntI bs x ≤ bs.length := by
  unfold cntI
  have := List.countP_le_length (p := fun b => b == x) (l := bs)
  omega
theorem cntL_step (bs : List Int) {b : Nat} (_hb : b < 12) : cntL (bs ++ [(b : Int)]) = (cntL bs).set b (cntI bs b + 1) := by
  refine List.ext_getElem (by simp [cntL]) fun n h1 h2 => ?_
  rw [cntL_len] at h1
  rw [cntL_get _ h1, List.getElem_set, cnt_append, cnt_one]
  by_cases h : b = n
  · subst h; rw [if_pos rfl, if_pos rfl]
  · rw [if_neg (by omega), if_neg h, cntL_get _ h1]; omega
theorem inI_false {l : List Int} {x : Int} (h : ∀ b ∈ l, b ≠ x) : inI l x = false := by
  unfold inI
  rw [List.any_eq_false]
  intro b hb hh
  exact h b hb (beq_iff_eq.1 hh)
theorem cnt_rise {r : List Int} (h : ∀ k (hk : k < r.length), ∀ i (hi : i < k), r[i] < r[k]) (x : Int) : cntI r x = if inI r x then 1 else 0 := by
  have key : ∀ k, k ≤ r.length → cntI (r.take k) x = if inI (r.take k) x then 1 else 0 := by
    intro k
    induction k with
    | zero => intro _; rfl
    | succ k ih =>
      intro hk
      have hk' : k < r.length := by omega
      rw [inI_step hk', List.take_succ_eq_append_getElem hk', cnt_append, cnt_one, ih (by omega)]
      by_cases hx : r[k] = x
      · have hn : inI (r.take k) x = false := inI_false fun b hb => by
          obtain ⟨i, hi, rfl⟩ := List.mem_iff_getElem.1 hb
          rw [List.length_take] at hi
          rw [List.getElem_take]
          have := h k hk' i (by omega)
          omega
        rw [hn, if_pos hx, beq_iff_eq.2 hx]
        simp
      · have hb : (r[k] == x) = false := beq_eq_false_iff_ne.2 hx
        rw [if_neg hx, hb, Bool.or_false]
        omega
  have := key r.length (Nat.le_refl _)
  rwa [List.take_length] at this
theorem inI_blks (l : List Cpy) (x : Int) : inI (blks l) x = hasB l x := by simp [inI, blks, hasB, List.any_map, Function.comp_def]
theorem cnt_copies {l : List Cpy} (h : copiesB l = true) (x : Int) : cntI (blks l) x = if hasB l x then 1 else 0 := by
  rw [← inI_blks]
  refine cnt_rise (fun k hk i hi => ?_) x
  have hk' : k < l.length := by simpa [blks] using hk
  have := (copies_get h hk').2.2.1 i hi
  simpa [blks] using this
theorem cnt_rev {r : List Int} (h : rise r = true) (x : Int) : cntI r x = if inI r x then 1 else 0 := cnt_rise (fun _ hk i hi => (rise_get h hk).2.2 i hi) x
theorem hasB_mem {l : List Cpy} {b : Int} : hasB l b = true ↔ ∃ c ∈ l, c.block = b := by simp [hasB]
theorem inI_mem {l : List Int} {b : Int} : inI l b = true ↔ b ∈ l := by simp [inI]
theorem apart_iff (t : Txn) : apart t = true ↔ (∀ x, ¬ (inI t.rev x = true ∧ hasB t.mt x = true)) ∧ (∀ x, ¬ (inI t.rev x = true ∧ hasB t.dt x = true)) ∧ (∀ x, ¬ (hasB t.mt x = true ∧ hasB t.dt x = true)) := by
  unfold apart
  rw [Bool.and_eq_true, List.all_eq_true, List.all_eq_true]
  constructor
  · rintro ⟨h1, h2⟩
    refine ⟨fun x ⟨hx, hy⟩ => ?_, fun x ⟨hx, hy⟩ => ?_, fun x ⟨hx, hy⟩ => ?_⟩
    · have := h1 x (inI_mem.1 hx)
      rw [hy] at this; cases this
    · have := h1 x (inI_mem.1 hx)
      rw [hy] at this; simp at this
    · obtain ⟨c, hc, rfl⟩ := hasB_mem.1 hx
      have := h2 c hc
      rw [hy] at this; cases this
  · rintro ⟨h1, h2, h3⟩
    refine ⟨fun b hb => ?_, fun c hc => ?_⟩
    · have hx := inI_mem.2 hb
      cases hm : hasB t.mt b
      · cases hd : hasB t.dt b
        · rfl
        · exact absurd ⟨hx, hd⟩ (h2 b)
      · exact absurd ⟨hx, hm⟩ (h1 b)
    · cases hd : hasB t.dt c.block
      · rfl
      · exact absurd ⟨hasB_mem.2 ⟨c, hc, rfl⟩, hd⟩ (h3 c.block)
/-- All that a transaction names. -/
def allOf (t : Txn) : List Int := (blks t.mt ++ blks t.dt) ++ t.rev
theorem cnt_all {t : Txn} (h1 : copiesB t.mt = true) (h2 : copiesB t.dt = true) (h3 : rise t.rev = true) (x : Int) :
    cntI (allOf t) x = (if hasB t.mt x then 1 else 0) + (if hasB t.dt x then 1 else 0) + (if inI t.rev x then 1 else 0) := by
  unfold allOf
  rw [cnt_append, cnt_append, cnt_copies h1, cnt_copies h2, cnt_rev h3]
theorem apart_cnt {t : Txn} (h1 : copiesB t.mt = true) (h2 : copiesB t.dt = true) (h3 : rise t.rev = true) (h : apart t = true) (x : Int) : cntI (allOf t) x ≤ 1 := by
  rw [cnt_all h1 h2 h3]
  obtain ⟨g1, g2, g3⟩ := (apart_iff t).1 h
  have g1 := g1 x; have g2 := g2 x; have g3 := g3 x
  cases hm : hasB t.mt x <;> cases hd : hasB t.dt x <;> cases hr : inI t.rev x <;> simp_all
theorem cnt_apart {t : Txn} (h1 : copiesB t.mt = true) (h2 : copiesB t.dt = true) (h3 : rise t.rev = true) (h : ∀ k : Nat, k < 12 → cntI (allOf t) k ≤ 1) : apart t = true := by
  have hall : ∀ x, cntI (allOf t) x ≤ 1 := by
    intro x
    by_cases hx : 0 ≤ x ∧ x < 12
    · have := h x.toNat (by omega)
      rwa [Int.toNat_of_nonneg hx.1] at this
    · rw [cnt_all h1 h2 h3]
      have hm : hasB t.mt x = false := by
        cases hh : hasB t.mt x
        · rfl
        · obtain ⟨c, hc, rfl⟩ := hasB_mem.1 hh
          obtain ⟨k, hk, rfl⟩ := List.mem_iff_getElem.1 hc
          exact absurd (of_decide_eq_true (copies_get h1 hk).1) hx
      have hd : hasB t.dt x = false := by
        cases hh : hasB t.dt x
        · rfl
        · obtain ⟨c, hc, rfl⟩ := hasB_mem.1 hh
          obtain ⟨k, hk, rfl⟩ := List.mem_iff_getElem.1 hc
          exact absurd (of_decide_eq_true (copies_get h2 hk).1) hx
      rw [hm, hd]
      cases inI t.rev x <;> decide
  rw [apart_iff]
  refine ⟨fun x ⟨a, b⟩ => ?_, fun x ⟨a, b⟩ => ?_, fun x ⟨a, b⟩ => ?_⟩
  all_goals
    have := hall x
    rw [cnt_all h1 h2 h3, a, b] at this
  · cases hd : hasB t.dt x <;> simp [hd] at this
  · cases hd : hasB t.mt x <;> simp [hd] at this
  · cases hd : inI t.rev x <;> simp [hd] at this
/-! ### Copies, one by one -/
def okC (l : List Cpy) (k : Nat) : Prop := riseAt (blks l) k ∧ (l.getD k ⟨0, ⟨#[]⟩⟩).text.size = 32
def okTo (l : List Cpy) (n : Nat) : Prop := ∀ k, k < n → okC l k
theorem copies_okTo (l : List Cpy) : copiesB l = true ↔ okTo l l.length := by
  unfold copiesB
  rw [Bool.and_eq_true, rise_iff]
  have hl : (blks l).length = l.length := by simp [blks]
  rw [hl]
  constructor
  · rintro ⟨h1, h2⟩ k hk
    refine ⟨h1 k hk, ?_⟩
    rw [List.getD_eq_getElem?_getD, List.getElem?_eq_getElem hk]
    exact of_decide_eq_true (List.all_eq_true.1 h2 _ (List.getElem_mem hk))
  · intro h
    refine ⟨fun k hk => (h k hk).1, ?_⟩
    rw [List.all_eq_true]
    intro c hc
    obtain ⟨k, hk, rfl⟩ := List.mem_iff_getElem.1 hc
    have := (h k hk).2
    rw [List.getD_eq_getElem?_getD, List.getElem?_eq_getElem hk] at this
    exact decide_eq_true this
theorem copies_no {l : List Cpy} {k : Nat} (hk : k < l.length) (h : ¬ okC l k) : copiesB l = false := by
  cases hc : copiesB l
  · rfl
  · exact absurd ((copies_okTo l).1 hc k hk) h
/-- The block before place k. -/
def lastB (l : List Int) (k : Nat) : Int := if k = 0 then -1 else l.getD (k - 1) 0
theorem lastB_succ {l : List Int} {k : Nat} (hk : k < l.length) : lastB l (k + 1) = l[k] := by
  unfold lastB
  rw [if_neg (by omega), Nat.add_sub_cancel]
  simp [hk]
theorem okC_iff {l : List Cpy} {k : Nat} (hk : k < l.length) (hto : okTo l k) : okC l k ↔ lastB (blks l) k < l[k].block ∧ l[k].block < 12 ∧ l[k].text.size = 32 := by
  have e : (blks l).getD k 0 = l[k].block := by simp [blks, hk]
  have e2 : l.getD k ⟨0, ⟨#[]⟩⟩ = l[k] := by simp [hk]
  unfold okC riseAt lastB
  rw [e, e2]
  by_cases h0 : k = 0
  · subst h0
    simp only [Nat.lt_irrefl, false_implies, and_true, if_true]
    omega
  · rw [if_neg h0]
    have hp : 0 ≤ (blks l).getD (k - 1) 0 := (hto (k - 1) (by omega)).1.1
    constructor
    · rintro ⟨⟨a, b, c⟩, d⟩
      exact ⟨c (by omega), b, d⟩
    · rintro ⟨a, b, c⟩
      exact ⟨⟨by omega, b, fun _ => a⟩, c⟩
end Wb

namespace Wb
open Go Go.RowKit
theorem run_index_ints {P : Program} {t e : TypeId} {n : Nat} {i : TypeInfo} (w : World) (ht : P.underlying t = some (.array n e)) (hi : P.info? e = some i) (hs : i.size = 1) (hz : (isAgg e).run P w = .ok false w) (l : List Int) (hl : l.length = n) {k : Nat} (hk : k < l.length) :
    (Instr.index t (.agg (l.map (Value.int .i64)).toArray) (.int .i64 (k : Int))).run P w = .ok (.int .i64 l[k]) w := by
  have h0 : (0 : Int) ≤ (k : Int) ∧ (k : Int) < (n : Int) := by omega
  simp [Instr.index, asIntOf, run_underlying ht, h0, Go.sizeOf, typeInfo, hi, hs, part, hz, Result.andThen, hk]
  omega
end Wb

namespace Wb
open Go Go.RowKit
theorem map_set (l : List Int) (n : Nat) (y : Int) : ((l.map (Value.int .i64)).toArray).setIfInBounds n (.int .i64 y) = ((l.set n y).map (Value.int .i64)).toArray := by
  simp [List.map_set]
theorem notGood {t : Txn} (h : seqOk t.seq = false ∨ copiesB t.mt = false ∨ copiesB t.dt = false ∨ rise t.rev = false ∨ apart t = false ∨ hOk t.h0 = false ∨ hOk t.h1 = false ∨ hOk t.h2 = false) : goodT t = false := by
  cases hg : goodT t
  · rfl
  · obtain ⟨h1, h2, h3, h4, h5, h6, h7, h8⟩ := (goodT_iff t).1 hg
    rw [h1, h2, h3, h4, h5, h6, h7, h8] at h
    simp at h
theorem hOk_iff (h : Hnd) : hOk h = true ↔ 0 ≤ h.left ∧ h.left ≤ 24 ∧ (h.on = true ∨ h.left = 0) := by
  unfold hOk; simp [and_assoc]
end Wb
namespace Go.Proofs.YtjhmfljlclajnabDoor
open Go.RowKit Wb
set_option linter.unusedVariables false
set_option linter.unusedSimpArgs false
set_option maxRecDepth 100000
set_option maxHeartbeats 16000000
theorem index12 (w : World) (l : List Int) (hl : l.length = 12) {k : Nat} (hk : k < l.length) :
    (Instr.index 125 (.agg (l.map (Value.int .i64)).toArray) (.int .i64 (k : Int))).run Tryd.prog w = .ok (.int .i64 l[k]) w := by
  obtain ⟨i, hi, _, hs, _⟩ := info_parts (show (Tryd.prog.info? 3).map (fun i => (i.zero, i.size, i.bytes)) = some (some (.int .i64 0), 1, 8) by kernel_rfl)
  exact run_index_ints w Tryd.underlying125 hi hs (by kernel_rfl) l hl hk
theorem index3 (w : World) (o0 o1 o2 : Bool) (l0 l1 l2 : Int) :
    (Instr.index 28 (.agg #[.bool o0, .int .i64 l0, .bool o1, .int .i64 l1, .bool o2, .int .i64 l2]) (.int .i64 0)).run Tryd.prog w = .ok (.agg #[.bool o0, .int .i64 l0]) w ∧
    (Instr.index 28 (.agg #[.bool o0, .int .i64 l0, .bool o1, .int .i64 l1, .bool o2, .int .i64 l2]) (.int .i64 1)).run Tryd.prog w = .ok (.agg #[.bool o1, .int .i64 l1]) w ∧
    (Instr.index 28 (.agg #[.bool o0, .int .i64 l0, .bool o1, .int .i64 l1, .bool o2, .int .i64 l2]) (.int .i64 2)).run Tryd.prog w = .ok (.agg #[.bool o2, .int .i64 l2]) w :=
  ⟨by kernel_rfl, by kernel_rfl, by kernel_rfl⟩

theorem ref_GoodTxn (t : Txn) (v : Value) (w : World) (h : RTxn w v t) :
    Calls Tryd.prog 43 #[v] w fun e w' => e = .returned (.bool (goodT t)) ∧ Below w.heap.size w w' := by
  obtain ⟨vm, vd, vr, rfl, hm, hd, hr, n1, n2, n3⟩ := h
  obtain ⟨am, cm, rfl, _⟩ := hm.form
  obtain ⟨ad, cd, rfl, _⟩ := hd.form
  obtain ⟨ar, cr, rfl, _⟩ := hr.form
  have hRi := fun v w (hh : RL intC w v t.rev) => ref_rising v t.rev w hh
  have hng := fun hh => notGood (t := t) hh
  have hix := fun w (l : List Int) (hl : l.length = 12) k (hk : k < l.length) => index12 w l hl hk
  have hi3 := fun w => index3 w t.h0.on t.h1.on t.h2.on t.h0.left t.h1.left t.h2.left
  unfold txnV
  replace hm := hid hm; replace hd := hid hd; replace hr := hid hr; replace hRi := hid hRi; replace hng := hid hng; replace hix := hid hix; replace hi3 := hid hi3
  have k00 : Blk ((w.alloc (.cells #[.int .i64 t.seq, .slice am t.mt.length cm, .slice ad t.dt.length cd, .slice ar t.rev.length cr, .bool t.h0.on, .int .i64 t.h0.left, .bool t.h1.on, .int .i64 t.h1.left, .bool t.h2.on, .int .i64 t.h2.left] 30)).alloc (.cells #[.int .i64 0, .int .i64 0, .int .i64 0, .int .i64 0, .int .i64 0, .int .i64 0, .int .i64 0, .int .i64 0, .int .i64 0, .int .i64 0, .int .i64 0, .int .i64 0] 125)) w.heap.size #[.int .i64 t.seq, .slice am t.mt.length cm, .slice ad t.dt.length cd, .slice ar t.rev.length cr, .bool t.h0.on, .int .i64 t.h0.left, .bool t.h1.on, .int .i64 t.h1.left, .bool t.h2.on, .int .i64 t.h2.left] 30 := (Blk.new w _ _).alloc _
  have kw0 : Blk ((w.alloc (.cells #[.int .i64 t.seq, .slice am t.mt.length cm, .slice ad t.dt.length cd, .slice ar t.rev.length cr, .bool t.h0.on, .int .i64 t.h0.left, .bool t.h1.on, .int .i64 t.h1.left, .bool t.h2.on, .int .i64 t.h2.left] 30)).alloc (.cells #[.int .i64 0, .int .i64 0, .int .i64 0, .int .i64 0, .int .i64 0, .int .i64 0, .int .i64 0, .int .i64 0, .int .i64 0, .int .i64 0, .int .i64 0, .int .i64 0] 125)) (w.heap.size + 1) ((cntL []).map (Value.int .i64)).toArray 125 := Blk.newAt (by simp)
  have nx0 : Below w.heap.size w ((w.alloc (.cells #[.int .i64 t.seq, .slice am t.mt.length cm, .slice ad t.dt.length cd, .slice ar t.rev.length cr, .bool t.h0.on, .int .i64 t.h0.left, .bool t.h1.on, .int .i64 t.h1.left, .bool t.h2.on, .int .i64 t.h2.left] 30)).alloc (.cells #[.int .i64 0, .int .i64 0, .int .i64 0, .int .i64 0, .int .i64 0, .int .i64 0, .int .i64 0, .int .i64 0, .int .i64 0, .int .i64 0, .int .i64 0, .int .i64 0] 125)) := bal (bal (b0 w) _) _
  go_enter Tryd.func43, Tryd.ntmps43
  go_wp2
  go_loopw [4, 6, 19] (fun la _ i wr => ∃ k : Nat, k ≤ t.mt.length ∧ i = .int .i64 k ∧ la = .int .i64 (lastB (blks t.mt) k) ∧ Hid (okTo t.mt k) ∧ Blk wr w.heap.size #[.int .i64 t.seq, .slice am t.mt.length cm, .slice ad t.dt.length cd, .slice ar t.rev.length cr, .bool t.h0.on, .int .i64 t.h0.left, .bool t.h1.on, .int .i64 t.h1.left, .bool t.h2.on, .int .i64 t.h2.left] 30 ∧ Blk wr (w.heap.size + 1) ((cntL (blks (t.mt.take k))).map (Value.int .i64)).toArray 125 ∧ Below w.heap.size w wr) (fun _ _ i _ => t.mt.length - (intOf i).toNat)
  case atStart => exact ⟨0, Nat.zero_le _, rfl, rfl, hid (fun k hk => absurd hk (Nat.not_lt_zero k)), k00, kw0, nx0⟩
  case round =>
    clear k00 kw0 nx0
    obtain ⟨k, hk, rfl, rfl, hto, k0, kw, nx⟩ := hrel
    have l0 := k0.lt
    have lw := kw.lt
    by_cases hlt : k < t.mt.length
    · obtain ⟨b1, o1, rfl, c0, c1⟩ := RL.at2 (fun x => .int .i64 x.block) (fun x => .string x.text) (fun _ => rfl) (hm.out.below nx) hlt
      have hoi := okC_iff hlt hto.out
      have hno := fun hn => hng.out (.inr (.inl (copies_no hlt hn)))
      have hsc := fun ho => (show okTo t.mt (k + 1) from fun j hj => if e : j = k then e ▸ ho else hto.out j (by omega))
      have hbl : blks (t.mt.take (k + 1)) = blks (t.mt.take k) ++ [t.mt[k].block] := by unfold blks; rw [List.take_succ_eq_append_getElem hlt, List.map_append]; rfl
      have hls : lastB (blks t.mt) (k + 1) = t.mt[k].block := by rw [lastB_succ (by simpa [blks] using hlt)]; simp [blks]
      have hcl : (cntL (blks (t.mt.take k))).length = 12 := cntL_len _
      have hlast : lastB (blks t.mt) k = -1 ∨ 0 ≤ lastB (blks t.mt) k := by
        by_cases hk0 : k = 0
        · left; subst hk0; rfl
        · right; unfold lastB; rw [if_neg hk0]; exact (hto.out (k - 1) (by omega)).1.1
      generalize t.mt[k] = x at *
      generalize lastB (blks t.mt) k = la at *
      replace hno := hid hno; replace hsc := hid hsc; replace hbl := hid hbl; replace hls := hid hls; replace hcl := hid hcl
      by_cases hA : la < x.block
      · by_cases hB : x.block < 12
        · by_cases hC : x.text.size = 32
          · have ho := hid (hsc.out (hoi.2 ⟨hA, hB, hC⟩))
            have eC : ((x.text.size : Int) != 32) = false := by rw [hC]; rfl
            obtain ⟨n, hn⟩ : ∃ n : Nat, x.block = n := ⟨x.block.toNat, by omega⟩
            have hn12 : n < 12 := by omega
            have hst := cntL_step (blks (t.mt.take k)) hn12
            have hcn := cntL_get (blks (t.mt.take k)) hn12
            have hc0 := cnt_nonneg (blks (t.mt.take k)) (n : Int)
            have hc1 := cnt_le (blks (t.mt.take k)) (n : Int)
            have hc2 : (blks (t.mt.take k)).length ≤ 11728124029610 := by simp only [blks, List.length_append, List.length_map, List.length_take]; omega
            have kwc := kw.cell n
            have kwf := kw.free n
            rw [List.getElem?_toArray, List.getElem?_map, List.getElem?_eq_getElem (by rw [cntL_len]; exact hn12), hcn, Option.map_some] at kwc
            obtain ⟨xb, xt⟩ := x
            dsimp only at hn
            subst hn
            dsimp only at *
            generalize cntI (blks (t.mt.take k)) (n : Int) = cn at *
            have hsz := nx.size
            have hn12' : (n : Int) < 12 := by omega
            clear hoi hC hcn hB hlast
            replace hst := hid hst
            go_wp2
            go_roundw
            case rel =>
              refine ⟨k + 1, by omega, by go_num, by rw [hls.out], ho, (k0.set_other _ _ (by simp)).alloc _, ?_, bal (nx.setCell (by simp) _) _⟩
              rw [hbl.out]
              have hk2 := (kw.set n (.int .i64 (cn + 1))).alloc (.cells #[.int .i64 (n : Int), .string xt] 74)
              rw [map_set] at hk2
              rw [← hst.out] at hk2; exact hk2
            case measure => simp [intOf]; omega
          · have hgf := hid (hno.out (fun ho => hC (hoi.1 ho).2.2))
            have eC : ((x.text.size : Int) != 32) = true := bne_iff_ne.2 (by omega)
            clear hoi hC
            go_wp2
            go_ret
            exact ⟨ret_b hgf.out.symm, bal nx _⟩
        · have hgf := hid (hno.out (fun ho => hB (hoi.1 ho).2.1))
          have hB2 : 11 < x.block := by omega
          clear hoi hB
          go_wp2
          go_ret
          exact ⟨ret_b hgf.out.symm, bal nx _⟩
      · have hgf := hid (hno.out (fun ho => hA (hoi.1 ho).1))
        have hA2 : x.block ≤ la := by omega
        clear hoi hA
        go_wp2
        go_ret
        exact ⟨ret_b hgf.out.symm, bal nx _⟩
    · obtain rfl : k = t.mt.length := by omega
      have hokmt := hid ((copies_okTo t.mt).2 hto.out)
      rw [List.take_length] at kw
      have c2 := k0.cell 2
      simp only [List.getElem?_toArray, List.getElem?_cons_zero, List.getElem?_cons_succ] at c2
      go_wp2
      go_loopw [4, 8, 50] (fun la _ i wr => ∃ k : Nat, k ≤ t.dt.length ∧ i = .int .i64 k ∧ la = .int .i64 (lastB (blks t.dt) k) ∧ Hid (okTo t.dt k) ∧ Blk wr w.heap.size #[.int .i64 t.seq, .slice am t.mt.length cm, .slice ad t.dt.length cd, .slice ar t.rev.length cr, .bool t.h0.on, .int .i64 t.h0.left, .bool t.h1.on, .int .i64 t.h1.left, .bool t.h2.on, .int .i64 t.h2.left] 30 ∧ Blk wr (w.heap.size + 1) ((cntL (blks t.mt ++ blks (t.dt.take k))).map (Value.int .i64)).toArray 125 ∧ Below w.heap.size w wr) (fun _ _ i _ => t.dt.length - (intOf i).toNat)
      case atStart => exact ⟨0, Nat.zero_le _, rfl, rfl, hid (fun k hk => absurd hk (Nat.not_lt_zero k)), k0, by simpa [blks] using kw, nx⟩
      case round =>
        clear k0 kw nx l0 lw c2 hto hk hlt
        obtain ⟨k, hk, rfl, rfl, hto, k0, kw, nx⟩ := hrel
        have l0 := k0.lt
        have lw := kw.lt
        by_cases hlt : k < t.dt.length
        · obtain ⟨b1, o1, rfl, c0, c1⟩ := RL.at2 (fun x => .int .i64 x.block) (fun x => .string x.text) (fun _ => rfl) (hd.out.below nx) hlt
          have hoi := okC_iff hlt hto.out
          have hno := fun hn => hng.out (.inr (.inr (.inl (copies_no hlt hn))))
          have hsc := fun ho => (show okTo t.dt (k + 1) from fun j hj => if e : j = k then e ▸ ho else hto.out j (by omega))
          have hbl : blks (t.dt.take (k + 1)) = blks (t.dt.take k) ++ [t.dt[k].block] := by unfold blks; rw [List.take_succ_eq_append_getElem hlt, List.map_append]; rfl
          have hls : lastB (blks t.dt) (k + 1) = t.dt[k].block := by rw [lastB_succ (by simpa [blks] using hlt)]; simp [blks]
          have hcl : (cntL (blks t.mt ++ blks (t.dt.take k))).length = 12 := cntL_len _
          have hlast : lastB (blks t.dt) k = -1 ∨ 0 ≤ lastB (blks t.dt) k := by
            by_cases hk0 : k = 0
            · left; subst hk0; rfl
            · right; unfold lastB; rw [if_neg hk0]; exact (hto.out (k - 1) (by omega)).1.1
          generalize t.dt[k] = x at *
          generalize lastB (blks t.dt) k = la at *
          replace hno := hid hno; replace hsc := hid hsc; replace hbl := hid hbl; replace hls := hid hls; replace hcl := hid hcl
          by_cases hA : la < x.block
          · by_cases hB : x.block < 12
            · by_cases hC : x.text.size = 32
              · have ho := hid (hsc.out (hoi.2 ⟨hA, hB, hC⟩))
                have eC : ((x.text.size : Int) != 32) = false := by rw [hC]; rfl
                obtain ⟨n, hn⟩ : ∃ n : Nat, x.block = n := ⟨x.block.toNat, by omega⟩
                have hn12 : n < 12 := by omega
                have hst := cntL_step (blks t.mt ++ blks (t.dt.take k)) hn12
                have hcn := cntL_get (blks t.mt ++ blks (t.dt.take k)) hn12
                have hc0 := cnt_nonneg (blks t.mt ++ blks (t.dt.take k)) (n : Int)
                have hc1 := cnt_le (blks t.mt ++ blks (t.dt.take k)) (n : Int)
                have hc2 : (blks t.mt ++ blks (t.dt.take k)).length ≤ 11728124029610 := by simp only [blks, List.length_append, List.length_map, List.length_take]; omega
                have kwc := kw.cell n
                have kwf := kw.free n
                rw [List.getElem?_toArray, List.getElem?_map, List.getElem?_eq_getElem (by rw [cntL_len]; exact hn12), hcn, Option.map_some] at kwc
                obtain ⟨xb, xt⟩ := x
                dsimp only at hn
                subst hn
                dsimp only at *
                rw [List.append_assoc] at hst
                generalize cntI (blks t.mt ++ blks (t.dt.take k)) (n : Int) = cn at *
                have hsz := nx.size
                have hn12' : (n : Int) < 12 := by omega
                clear hoi hC hcn hB hlast
                replace hst := hid hst
                go_wp2
                go_roundw
                case rel =>
                  refine ⟨k + 1, by omega, by go_num, by rw [hls.out], ho, (k0.set_other _ _ (by simp)).alloc _, ?_, bal (nx.setCell (by simp) _) _⟩
                  rw [hbl.out]
                  have hk2 := (kw.set n (.int .i64 (cn + 1))).alloc (.cells #[.int .i64 (n : Int), .string xt] 74)
                  rw [map_set] at hk2
                  rw [← hst.out] at hk2; exact hk2
                case measure => simp [intOf]; omega
              · have hgf := hid (hno.out (fun ho => hC (hoi.1 ho).2.2))
                have eC : ((x.text.size : Int) != 32) = true := bne_iff_ne.2 (by omega)
                clear hoi hC
                go_wp2
                go_ret
                exact ⟨ret_b hgf.out.symm, bal nx _⟩
            · have hgf := hid (hno.out (fun ho => hB (hoi.1 ho).2.1))
              have hB2 : 11 < x.block := by omega
              clear hoi hB
              go_wp2
              go_ret
              exact ⟨ret_b hgf.out.symm, bal nx _⟩
          · have hgf := hid (hno.out (fun ho => hA (hoi.1 ho).1))
            have hA2 : x.block ≤ la := by omega
            clear hoi hA
            go_wp2
            go_ret
            exact ⟨ret_b hgf.out.symm, bal nx _⟩
        · obtain rfl : k = t.dt.length := by omega
          have hokdt := hid ((copies_okTo t.dt).2 hto.out)
          rw [List.take_length] at kw
          by_cases hrr : rise t.rev = true
          rotate_left
          · have hgf := hid (hng.out (.inr (.inr (.inr (.inl (by simpa using hrr))))))
            have hRk := fun w hh => hRi.out (.slice ar t.rev.length cr) w hh
            rw [Bool.not_eq_true _ |>.mp hrr] at hRk
            replace hRk := hid hRk
            have c3 := k0.cell 3
            simp only [List.getElem?_toArray, List.getElem?_cons_zero, List.getElem?_cons_succ] at c3
            clear hrr
            go_wp2_with (go_at_call 72; go_loud ((with_reducible refine (hRk.out _ (hr.out.below nx)).mono ?_); rintro e w1 ⟨rfl, rfl⟩))
            go_ret
            exact ⟨ret_b hgf.out.symm, nx⟩
          have hRk := fun w hh => hRi.out (.slice ar t.rev.length cr) w hh
          rw [hrr] at hRk
          replace hRk := hid hRk
          have hrg := hid (fun k (hk : k < t.rev.length) => rise_get hrr hk)
          replace hrr := hid hrr
          have c3 := k0.cell 3
          simp only [List.getElem?_toArray, List.getElem?_cons_zero, List.getElem?_cons_succ] at c3
          go_wp2_with (go_at_call 72; go_loud ((with_reducible refine (hRk.out _ (hr.out.below nx)).mono ?_); rintro e w1 ⟨rfl, rfl⟩))
          go_loopw [10, 85] (fun _ i wr => ∃ k : Nat, k ≤ t.rev.length ∧ i = .int .i64 k ∧ Blk wr w.heap.size #[.int .i64 t.seq, .slice am t.mt.length cm, .slice ad t.dt.length cd, .slice ar t.rev.length cr, .bool t.h0.on, .int .i64 t.h0.left, .bool t.h1.on, .int .i64 t.h1.left, .bool t.h2.on, .int .i64 t.h2.left] 30 ∧ Blk wr (w.heap.size + 1) ((cntL ((blks t.mt ++ blks t.dt) ++ t.rev.take k)).map (Value.int .i64)).toArray 125 ∧ Below w.heap.size w wr) (fun _ i _ => t.rev.length - (intOf i).toNat)
          case atStart => exact ⟨0, Nat.zero_le _, rfl, k0, by simpa using kw, nx⟩
          case round =>
            clear k0 kw nx l0 lw c3
            obtain ⟨k, hk, rfl, k0, kw, nx⟩ := hrel
            have l0 := k0.lt
            have lw := kw.lt
            by_cases hlt : k < t.rev.length
            · obtain ⟨b1, o1, rfl, c0⟩ := RL.at1 (fun x => .int .i64 x) (fun _ => rfl) (hr.out.below nx) hlt
              obtain ⟨g1, g2, _⟩ := hrg.out k hlt
              have htk : t.rev.take (k + 1) = t.rev.take k ++ [t.rev[k]] := List.take_succ_eq_append_getElem hlt
              generalize t.rev[k] = x at *
              obtain ⟨n, rfl⟩ : ∃ n : Nat, x = n := ⟨x.toNat, by omega⟩
              have hn12 : n < 12 := by omega
              have hst := cntL_step ((blks t.mt ++ blks t.dt) ++ t.rev.take k) hn12
              have hcn := cntL_get ((blks t.mt ++ blks t.dt) ++ t.rev.take k) hn12
              have hc0 := cnt_nonneg ((blks t.mt ++ blks t.dt) ++ t.rev.take k) (n : Int)
              have hc1 := cnt_le ((blks t.mt ++ blks t.dt) ++ t.rev.take k) (n : Int)
              have hc2 : ((blks t.mt ++ blks t.dt) ++ t.rev.take k).length ≤ 29320310073770 := by simp only [blks, List.length_append, List.length_map, List.length_take]; omega
              have kwc := kw.cell n
              have kwf := kw.free n
              rw [List.getElem?_toArray, List.getElem?_map, List.getElem?_eq_getElem (by rw [cntL_len]; exact hn12), hcn, Option.map_some] at kwc
              generalize cntI ((blks t.mt ++ blks t.dt) ++ t.rev.take k) (n : Int) = cn at *
              have hn12' : (n : Int) < 12 := by omega
              clear hcn
              replace hst := hid hst; replace htk := hid htk
              go_wp2
              go_roundw
              case rel =>
                refine ⟨k + 1, by omega, by go_num, k0.set_other _ _ (by simp), ?_, nx.setCell (by simp) _⟩
                have hk2 := kw.set n (.int .i64 (cn + 1))
                rw [map_set, ← hst.out] at hk2
                rw [htk.out, ← List.append_assoc]
                exact hk2
              case measure => simp [intOf]; omega
            · obtain rfl : k = t.rev.length := by omega
              rw [List.take_length] at kw
              have hap := fun ha x => apart_cnt hokmt.out hokdt.out hrr.out ha x
              have hac := fun hh => cnt_apart hokmt.out hokdt.out hrr.out hh
              change Blk wr (w.heap.size + 1) ((cntL (allOf t)).map (Value.int .i64)).toArray 125 at kw
              have hsz : some 12 = some (((cntL (allOf t)).map (Value.int .i64)).toArray).size := by simp [cntL_len]
              have hget : ∀ k : Nat, k < 12 → (cntL (allOf t))[k]? = some (cntI (allOf t) k) := fun k hk => by rw [List.getElem?_eq_getElem (by rw [cntL_len]; exact hk), cntL_get _ hk]
              have hl12 := cntL_len (allOf t)
              have hng5 := fun (ha : ¬ apart t = true) => hng.out (.inr (.inr (.inr (.inr (.inl (by simpa using ha))))))
              generalize hcl : cntL (allOf t) = cl at *
              generalize hca : cntI (allOf t) = ca at *
              clear hcl hca
              replace hap := hid hap; replace hac := hid hac; replace hsz := hid hsz; replace hget := hid hget; replace hl12 := hid hl12; replace hng5 := hid hng5
              have kw2 := hid kw
              clear hlt
              go_wp2_with (refine wpList_load_row rfl 125 _ rfl _ rfl _ _ _ _ kw2.out Tryd.underlying125 rfl ((by kernel_rfl : _ = some 12).trans hsz.out) ?_)
              go_loopw [12, 96] (fun _ i wr => ∃ k : Nat, k ≤ 12 ∧ i = .int .i64 k ∧ Hid (∀ j : Nat, j < k → ca j ≤ 1) ∧ Blk wr w.heap.size #[.int .i64 t.seq, .slice am t.mt.length cm, .slice ad t.dt.length cd, .slice ar t.rev.length cr, .bool t.h0.on, .int .i64 t.h0.left, .bool t.h1.on, .int .i64 t.h1.left, .bool t.h2.on, .int .i64 t.h2.left] 30 ∧ Below w.heap.size w wr) (fun _ i _ => 12 - (intOf i).toNat)
              case atStart => exact ⟨0, by decide, rfl, hid (fun j hj => absurd hj (Nat.not_lt_zero j)), k0, nx⟩
              case round =>
                clear k0 kw kw2 nx l0 lw
                obtain ⟨k, hk, rfl, hall, k0, nx⟩ := hrel
                by_cases hlt : k < 12
                · have hixk := hix.out wr cl hl12.out k (by rw [hl12.out]; exact hlt)
                  have hg2 := hget.out k hlt
                  rw [List.getElem?_eq_getElem (by rw [hl12.out]; exact hlt)] at hg2
                  simp only [Option.some.injEq] at hg2
                  rw [hg2] at hixk
                  clear hg2
                  by_cases hc : ca k ≤ 1
                  · have hall2 := hid (show ∀ j : Nat, j < k + 1 → ca j ≤ 1 from fun j hj => by
                      rcases Nat.lt_succ_iff_lt_or_eq.1 hj with h1 | rfl
                      · exact hall.out j h1
                      · exact hc)
                    generalize ca k = cn at *
                    go_wp2
                    go_roundw
                    case rel => exact ⟨k + 1, by omega, by go_num, hall2, k0, nx⟩
                    case measure => simp [intOf]; omega
                  · have hgf := hid (hng5.out (fun ha => hc (hap.out ha k)))
                    have hc2 : 1 < ca k := by omega
                    generalize ca k = cn at *
                    clear hc
                    go_wp2
                    go_ret
                    exact ⟨ret_b hgf.out.symm, nx⟩
                · obtain rfl : k = 12 := by omega
                  have hapt := hid (hac.out (fun j hj => hall.out j hj))
                  have l0 := k0.lt
                  have e4 := k0.cell 4; have e5 := k0.cell 5; have e6 := k0.cell 6; have e7 := k0.cell 7; have e8 := k0.cell 8; have e9 := k0.cell 9
                  simp only [List.getElem?_toArray, List.getElem?_cons_zero, List.getElem?_cons_succ] at e4 e5 e6 e7 e8 e9
                  clear hlt hall
                  go_wp2
                  go_loopw [14, 104] (fun _ i wr => ∃ k : Nat, k ≤ 3 ∧ i = .int .i64 k ∧ Hid (∀ j, j < k → (if j = 0 then hOk t.h0 else if j = 1 then hOk t.h1 else hOk t.h2) = true) ∧ Blk wr w.heap.size #[.int .i64 t.seq, .slice am t.mt.length cm, .slice ad t.dt.length cd, .slice ar t.rev.length cr, .bool t.h0.on, .int .i64 t.h0.left, .bool t.h1.on, .int .i64 t.h1.left, .bool t.h2.on, .int .i64 t.h2.left] 30 ∧ Below w.heap.size w wr) (fun _ i _ => 3 - (intOf i).toNat)
                  case atStart => exact ⟨0, by decide, rfl, hid (fun j hj => absurd hj (Nat.not_lt_zero j)), k0, nx⟩
                  case round =>
                    clear k0 nx l0 e4 e5 e6 e7 e8 e9
                    obtain ⟨k, hk, rfl, hall, k0, nx⟩ := hrel
                    have l0 := k0.lt
                    by_cases hlt : k < 3
                    · obtain (rfl | rfl | rfl) : k = 0 ∨ k = 1 ∨ k = 2 := by omega
                      · -- handle 0
                        have hi := hi3.out wr
                        replace hi := hi.1
                        have hof := hOk_iff t.h0
                        have hnh := fun hh => hng.out (.inr (.inr (.inr (.inr (.inr (.inl hh))))))
                        generalize t.h0.on = o at *
                        generalize hle : t.h0.left = lf at *
                        replace hnh := hid hnh; replace hle := hid hle
                        by_cases hoo : hOk t.h0 = true
                        · obtain ⟨a1, a2, a3⟩ := hof.1 hoo
                          have hoo2 := hid hoo
                          have hall2 := hid (show ∀ j, j < 0 + 1 → (if j = 0 then hOk t.h0 else if j = 1 then hOk t.h1 else hOk t.h2) = true from by intro j hj; obtain rfl : j = 0 := (by omega); exact hoo2.out)
                          clear hof hoo
                          by_cases hz : lf = 0
                          · subst hz
                            go_wp2
                            go_roundw
                            case rel => first | exact ⟨0 + 1, by decide, rfl, hall2, k0.alloc _, bal nx _⟩ | ((repeat apply Exists.intro); exact ⟨⟨0 + 1, by decide, rfl, hall2, k0.alloc _, bal nx _⟩, rfl⟩)
                            case measure => simp [intOf]
                          · have ho : o = true := a3.resolve_right hz
                            have hz2 : 0 < lf := by omega
                            subst ho
                            clear hz a3
                            go_wp2
                            go_roundw
                            case rel => first | exact ⟨0 + 1, by decide, rfl, hall2, k0.alloc _, bal nx _⟩ | ((repeat apply Exists.intro); exact ⟨⟨0 + 1, by decide, rfl, hall2, k0.alloc _, bal nx _⟩, rfl⟩)
                            case measure => simp [intOf]
                        · replace hoo : hOk t.h0 = false := by simpa using hoo
                          have hgf := hid (hnh.out hoo)
                          have hof2 : ¬ (0 ≤ lf ∧ lf ≤ 24 ∧ (o = true ∨ lf = 0)) := fun h => by rw [hof.2 h] at hoo; cases hoo
                          clear hof hoo
                          by_cases q1 : lf < 0
                          · clear hof2
                            go_wp2
                            go_ret
                            exact ⟨ret_b hgf.out.symm, bal nx _⟩
                          · by_cases q2 : 24 < lf
                            · clear hof2
                              go_wp2
                              go_ret
                              exact ⟨ret_b hgf.out.symm, bal nx _⟩
                            · have q3 : 0 < lf := by
                                by_cases hz : lf = 0
                                · exact absurd ⟨by omega, by omega, .inr hz⟩ hof2
                                · omega
                              have q4 : o = false := by
                                cases o
                                · rfl
                                · exact absurd ⟨by omega, by omega, .inl rfl⟩ hof2
                              have q5 : 0 ≤ lf := by omega
                              have q6 : lf ≤ 24 := by omega
                              subst q4
                              clear hof2 q1 q2
                              go_wp2
                              go_ret
                              exact ⟨ret_b hgf.out.symm, bal nx _⟩
                      · -- handle 1
                        have hi := hi3.out wr
                        replace hi := hi.2.1
                        have hof := hOk_iff t.h1
                        have hnh := fun hh => hng.out (.inr (.inr (.inr (.inr (.inr (.inr (.inl hh)))))))
                        generalize t.h1.on = o at *
                        generalize hle : t.h1.left = lf at *
                        replace hnh := hid hnh; replace hle := hid hle
                        by_cases hoo : hOk t.h1 = true
                        · obtain ⟨a1, a2, a3⟩ := hof.1 hoo
                          have hoo2 := hid hoo
                          have hall2 := hid (show ∀ j, j < 1 + 1 → (if j = 0 then hOk t.h0 else if j = 1 then hOk t.h1 else hOk t.h2) = true from by intro j hj; rcases Nat.lt_succ_iff_lt_or_eq.1 hj with h1 | rfl; (· exact hall.out j h1); exact hoo2.out)
                          clear hof hoo
                          by_cases hz : lf = 0
                          · subst hz
                            go_wp2
                            go_roundw
                            case rel => first | exact ⟨1 + 1, by decide, rfl, hall2, k0.alloc _, bal nx _⟩ | ((repeat apply Exists.intro); exact ⟨⟨1 + 1, by decide, rfl, hall2, k0.alloc _, bal nx _⟩, rfl⟩)
                            case measure => simp [intOf]
                          · have ho : o = true := a3.resolve_right hz
                            have hz2 : 0 < lf := by omega
                            subst ho
                            clear hz a3
                            go_wp2
                            go_roundw
                            case rel => first | exact ⟨1 + 1, by decide, rfl, hall2, k0.alloc _, bal nx _⟩ | ((repeat apply Exists.intro); exact ⟨⟨1 + 1, by decide, rfl, hall2, k0.alloc _, bal nx _⟩, rfl⟩)
                            case measure => simp [intOf]
                        · replace hoo : hOk t.h1 = false := by simpa using hoo
                          have hgf := hid (hnh.out hoo)
                          have hof2 : ¬ (0 ≤ lf ∧ lf ≤ 24 ∧ (o = true ∨ lf = 0)) := fun h => by rw [hof.2 h] at hoo; cases hoo
                          clear hof hoo
                          by_cases q1 : lf < 0
                          · clear hof2
                            go_wp2
                            go_ret
                            exact ⟨ret_b hgf.out.symm, bal nx _⟩
                          · by_cases q2 : 24 < lf
                            · clear hof2
                              go_wp2
                              go_ret
                              exact ⟨ret_b hgf.out.symm, bal nx _⟩
                            · have q3 : 0 < lf := by
                                by_cases hz : lf = 0
                                · exact absurd ⟨by omega, by omega, .inr hz⟩ hof2
                                · omega
                              have q4 : o = false := by
                                cases o
                                · rfl
                                · exact absurd ⟨by omega, by omega, .inl rfl⟩ hof2
                              have q5 : 0 ≤ lf := by omega
                              have q6 : lf ≤ 24 := by omega
                              subst q4
                              clear hof2 q1 q2
                              go_wp2
                              go_ret
                              exact ⟨ret_b hgf.out.symm, bal nx _⟩
                      · -- handle 2
                        have hi := hi3.out wr
                        replace hi := hi.2.2
                        have hof := hOk_iff t.h2
                        have hnh := fun hh => hng.out (.inr (.inr (.inr (.inr (.inr (.inr (.inr hh)))))))
                        generalize t.h2.on = o at *
                        generalize hle : t.h2.left = lf at *
                        replace hnh := hid hnh; replace hle := hid hle
                        by_cases hoo : hOk t.h2 = true
                        · obtain ⟨a1, a2, a3⟩ := hof.1 hoo
                          have hoo2 := hid hoo
                          have hall2 := hid (show ∀ j, j < 2 + 1 → (if j = 0 then hOk t.h0 else if j = 1 then hOk t.h1 else hOk t.h2) = true from by intro j hj; rcases Nat.lt_succ_iff_lt_or_eq.1 hj with h1 | rfl; (· exact hall.out j h1); exact hoo2.out)
                          clear hof hoo
                          by_cases hz : lf = 0
                          · subst hz
                            go_wp2
                            go_roundw
                            case rel => first | exact ⟨2 + 1, by decide, rfl, hall2, k0.alloc _, bal nx _⟩ | ((repeat apply Exists.intro); exact ⟨⟨2 + 1, by decide, rfl, hall2, k0.alloc _, bal nx _⟩, rfl⟩)
                            case measure => simp [intOf]
                          · have ho : o = true := a3.resolve_right hz
                            have hz2 : 0 < lf := by omega
                            subst ho
                            clear hz a3
                            go_wp2
                            go_roundw
                            case rel => first | exact ⟨2 + 1, by decide, rfl, hall2, k0.alloc _, bal nx _⟩ | ((repeat apply Exists.intro); exact ⟨⟨2 + 1, by decide, rfl, hall2, k0.alloc _, bal nx _⟩, rfl⟩)
                            case measure => simp [intOf]
                        · replace hoo : hOk t.h2 = false := by simpa using hoo
                          have hgf := hid (hnh.out hoo)
                          have hof2 : ¬ (0 ≤ lf ∧ lf ≤ 24 ∧ (o = true ∨ lf = 0)) := fun h => by rw [hof.2 h] at hoo; cases hoo
                          clear hof hoo
                          by_cases q1 : lf < 0
                          · clear hof2
                            go_wp2
                            go_ret
                            exact ⟨ret_b hgf.out.symm, bal nx _⟩
                          · by_cases q2 : 24 < lf
                            · clear hof2
                              go_wp2
                              go_ret
                              exact ⟨ret_b hgf.out.symm, bal nx _⟩
                            · have q3 : 0 < lf := by
                                by_cases hz : lf = 0
                                · exact absurd ⟨by omega, by omega, .inr hz⟩ hof2
                                · omega
                              have q4 : o = false := by
                                cases o
                                · rfl
                                · exact absurd ⟨by omega, by omega, .inl rfl⟩ hof2
                              have q5 : 0 ≤ lf := by omega
                              have q6 : lf ≤ 24 := by omega
                              subst q4
                              clear hof2 q1 q2
                              go_wp2
                              go_ret
                              exact ⟨ret_b hgf.out.symm, bal nx _⟩
                    · obtain rfl : k = 3 := by omega
                      have e0 := k0.cell 0
                      simp only [List.getElem?_toArray, List.getElem?_cons_zero, List.getElem?_cons_succ] at e0
                      have hgt : seqOk t.seq = true → goodT t = true := fun hh => (goodT_iff t).2 ⟨hh, hokmt.out, hokdt.out, hrr.out, hapt.out, hall.out 0 (by decide), hall.out 1 (by decide), hall.out 2 (by decide)⟩
                      have hgn : seqOk t.seq = false → goodT t = false := fun hh => hng.out (.inl hh)
                      generalize hsq : t.seq = sq at *
                      replace hgt := hid hgt; replace hgn := hid hgn; replace hsq := hid hsq
                      by_cases q1 : 1 ≤ sq
                      · by_cases q2 : sq ≤ 2147483647
                        · have hv := hid (hgt.out (decide_eq_true ⟨q1, q2⟩))
                          have q3 : 0 < sq := by omega
                          have q4 : sq < 2147483648 := by omega
                          go_wp2
                          go_ret
                          exact ⟨ret_b hv.out.symm, nx⟩
                        · have hv := hid (hgn.out (decide_eq_false (fun h => q2 h.2)))
                          have q3 : 0 < sq := by omega
                          have q4 : decide (sq < 2147483648) = false := decide_eq_false (by omega)
                          go_wp2
                          go_ret
                          exact ⟨ret_b hv.out.symm, nx⟩
                      · have hv := hid (hgn.out (decide_eq_false (fun h => q1 h.1)))
                        have q3 : sq ≤ 0 := by omega
                        go_wp2
                        go_ret
                        exact ⟨ret_b hv.out.symm, nx⟩
end Go.Proofs.YtjhmfljlclajnabDoor

namespace Go.Proofs.YtjhmfljlclajnabDoor
open Go.RowKit Wb
set_option linter.unusedVariables false
set_option linter.unusedSimpArgs false
set_option maxRecDepth 100000
set_option maxHeartbeats 4000000

theorem ref_NewestOf (l : List Txn) (hg : ∀ t ∈ l, goodT t = true) (v : Value) (w : World) (h : RTxns w v l) :
    Calls Tryd.prog 22 #[v] w fun e w' => ∃ v', e = .returned v' ∧ Wb.Own cpyC w.heap.size 74 2 w' v' (newestL l) ∧ Below w.heap.size w w' := by
  obtain ⟨a, cap, rfl, hl⟩ := h.form
  have hR : ∀ (f : Int → Option ByteArray) (b : Int) v w (hh : RL cpyC w v (viewL f)), Calls Tryd.prog 53 #[v, .int .i64 b] w fun e w' => ∃ v', e = .returned v' ∧ Wb.Own cpyC w.heap.size 74 2 w' v' (viewL (fun x => if x = b then none else f x)) ∧ Below w.heap.size w w' := fun f b v w hh => by
    rw [← dropC_view]; exact ref_rest _ b v w hh (Nat.le_trans (viewN_len f 12) (by decide))
  have hW : ∀ (f : Int → Option ByteArray) (b : Int) (s : ByteArray) v w (hh : RL cpyC w v (viewL f)), Calls Tryd.prog 55 #[v, .int .i64 b, .string s] w fun e w' => ∃ v', e = .returned v' ∧ Wb.Own cpyC w.heap.size 74 2 w' v' (viewL (fun x => if x = b then some s else f x)) ∧ Below w.heap.size w w' := fun f b s v w hh => by
    rw [← withL_view]; exact ref_with _ b s v w hh (Nat.le_trans (viewN_len f 12) (by decide))
  have hB := fun b w => ref_isBlock b w
  have hA := fun l b v w h1 h2 => ref_among l b v w h1 h2
  have hgk := fun k (hk : k < l.length) => hg l[k] (List.getElem_mem hk)
  have hst := fun k (hk : k < l.length) b => newestB_step hk b
  have h0 : ∀ b, newestB (l.take 0) b = none := fun b => rfl
  have hnl : newestL l = viewL (newestB l) := rfl
  have hv0 : viewL (fun _ => none) = [] := by unfold viewL viewN; rw [List.filterMap_eq_nil_iff]; intro _ _; rfl
  rw [hnl]
  replace h := hid h; replace hR := hid hR; replace hW := hid hW; replace hB := hid hB; replace hA := hid hA; replace hgk := hid hgk; replace hst := hid hst; replace h0 := hid h0; replace hv0 := hid hv0
  clear hg hnl
  go_enter Tryd.func22, Tryd.ntmps22
  go_wp2
  go_loopw [3, 12] (fun o i wr => ∃ k : Nat, k ≤ l.length ∧ i = .int .i64 k ∧ Wb.Own cpyC w.heap.size 74 2 wr o (viewL (newestB (l.take k))) ∧ Below w.heap.size w wr) (fun _ i _ => l.length - (intOf i).toNat)
  case atStart => exact ⟨0, Nat.zero_le _, rfl, by rw [show viewL (newestB (l.take 0)) = [] from hv0.out]; exact Own.nil _ _ _ _ _, b0 w⟩
  case round =>
    obtain ⟨wo, rfl⟩ : ∃ wo : World, wo = wr := ⟨_, rfl⟩
    obtain ⟨k, hk, rfl, hown, nx⟩ := hrel
    by_cases hlt : k < l.length
    · obtain ⟨b1, o1, vm, vd, vr, rfl, hrt, c0, c1, c2, c3, c4, c5, c6, c7, c8, c9⟩ := (h.out.below nx).at hlt
      have hgt := hgk.out k hlt
      have hstk := hst.out k hlt
      generalize l[k] = t at *
      generalize newestB (l.take k) = g at *
      have hturn := turn_good ((goodT_iff t).1 hgt).2.1 g
      have hend : (fun b => turnT t (g b) b) = newestB (l.take (k + 1)) := funext fun b => (hstk b).symm
      rw [hend] at hturn
      clear hstk hend
      generalize hge : newestB (l.take (k + 1)) = g' at *
      replace hge := hid hge
      obtain ⟨vm', vd', vr', hv, hm, hd, hr, n1, n2, n3⟩ := hrt
      simp only [txnV, Value.agg.injEq, Array.mk.injEq, List.cons.injEq, and_true, true_and] at hv
      obtain ⟨rfl, rfl, rfl⟩ := hv
      obtain ⟨am, cm, rfl, _⟩ := hm.form
      obtain ⟨ad, cd, rfl, _⟩ := hd.form
      obtain ⟨ar, cr, rfl, _⟩ := hr.form
      have hmk := fun j (hj : j < t.mt.length) => (copies_get ((goodT_iff t).1 hgt).2.1 hj).1
      have hma := fun j (hj : j < t.mt.length) => (good_meta hgt hj).1
      have hrs := fun j (hj : j < t.rev.length) => revF_step g hj
      have hms := fun j (hj : j < t.mt.length) => metaF_step (revF g t.rev) hj
      have hr0 : revF g (t.rev.take 0) = g := rfl
      have hrn : revF g (t.rev.take t.rev.length) = revF g t.rev := by rw [List.take_length]
      have hm0 : metaF (revF g t.rev) (t.mt.take 0) = revF g t.rev := rfl
      have hmn : metaF (revF g t.rev) (t.mt.take t.mt.length) = g' := by rw [List.take_length]; exact hturn
      replace hm := hid hm; replace hr := hid hr; replace hmk := hid hmk; replace hma := hid hma; replace hrs := hid hrs; replace hms := hid hms; replace hr0 := hid hr0; replace hrn := hid hrn; replace hm0 := hid hm0; replace hmn := hid hmn
      clear hturn hgt hd
      have k5 : Blk (wo.alloc (.cells #[.int .i64 t.seq, .slice am t.mt.length cm, .slice ad t.dt.length cd, .slice ar t.rev.length cr, .bool t.h0.on, .int .i64 t.h0.left, .bool t.h1.on, .int .i64 t.h1.left, .bool t.h2.on, .int .i64 t.h2.left] 30)) wo.heap.size #[.int .i64 t.seq, .slice am t.mt.length cm, .slice ad t.dt.length cd, .slice ar t.rev.length cr, .bool t.h0.on, .int .i64 t.h0.left, .bool t.h1.on, .int .i64 t.h1.left, .bool t.h2.on, .int .i64 t.h2.left] 30 := Blk.new wo _ _
      go_wp2
      go_loopw [3, 7, 19] (fun o _ i wr => ∃ j : Nat, j ≤ t.rev.length ∧ i = .int .i64 j ∧ Wb.Own cpyC w.heap.size 74 2 wr o (viewL (revF g (t.rev.take j))) ∧ Below w.heap.size w wr ∧ Below (wo.heap.size + 1) (wo.alloc (.cells #[.int .i64 t.seq, .slice am t.mt.length cm, .slice ad t.dt.length cd, .slice ar t.rev.length cr, .bool t.h0.on, .int .i64 t.h0.left, .bool t.h1.on, .int .i64 t.h1.left, .bool t.h2.on, .int .i64 t.h2.left] 30)) wr) (fun _ _ i _ => t.rev.length - (intOf i).toNat)
      case atStart => exact ⟨0, Nat.zero_le _, rfl, by rw [hr0.out]; exact hown.alloc _, bal nx _, Below.refl _ _⟩
      case round =>
        clear hown
        obtain ⟨j, hj, rfl, hown, nx2, hb2⟩ := hrel
        have hbo : Below wo.heap.size wo wr := (bal (b0 wo) _).trans (hb2.mono (by omega))
        by_cases hlt2 : j < t.rev.length
        · obtain ⟨b3, o3, rfl, d0⟩ := RL.at1 (fun x => .int .i64 x) (fun _ => rfl) (hr.out.below hbo) hlt2
          have hs := hrs.out j hlt2
          have hRj := hR.out (revF g (t.rev.take j)) t.rev[j]
          rw [hs] at hRj
          clear hs
          generalize revF g (t.rev.take j) = gj at *
          generalize t.rev[j] = x at *
          obtain ⟨ao, co, rfl⟩ := hown.form
          replace hRj := hid hRj
          go_wp2_with (go_at_call 53; go_loud ((with_reducible refine (hRj.out _ _ hown.reads).mono ?_); rintro e w1 ⟨v1, rfl, hown1, hb1⟩; have nx3 := bgo nx2 hb1; have hb3 := hb2.trans (hb1.mono (by have := hb2.size; simpa using this)); have hown1' := hown1.mono (base' := w.heap.size) nx2.size))
          go_roundw
          case rel => exact ⟨j + 1, by omega, by go_num, hown1', nx3, hb3⟩
          case measure => simp [intOf]; omega
        · obtain rfl : j = t.rev.length := by omega
          rw [hrn.out] at hown
          have k5b := k5.below hb2 (by omega)
          have l5 := k5b.lt
          have c1 := k5b.cell 1
          simp only [List.getElem?_toArray, List.getElem?_cons_zero, List.getElem?_cons_succ] at c1
          go_wp2
          go_loopw [3, 9, 30] (fun o _ i wi => ∃ j : Nat, j ≤ t.mt.length ∧ i = .int .i64 j ∧ Wb.Own cpyC w.heap.size 74 2 wi o (viewL (metaF (revF g t.rev) (t.mt.take j))) ∧ Below w.heap.size w wi ∧ Below (wo.heap.size + 1) (wo.alloc (.cells #[.int .i64 t.seq, .slice am t.mt.length cm, .slice ad t.dt.length cd, .slice ar t.rev.length cr, .bool t.h0.on, .int .i64 t.h0.left, .bool t.h1.on, .int .i64 t.h1.left, .bool t.h2.on, .int .i64 t.h2.left] 30)) wi) (fun _ _ i _ => t.mt.length - (intOf i).toNat)
          case atStart => exact ⟨0, Nat.zero_le _, rfl, by rw [hm0.out]; exact hown, nx2, hb2⟩
          case round =>
            clear hown nx2 hb2 hbo k5b l5 c1
            obtain ⟨j, hj, rfl, hown, nx2, hb2⟩ := hrel
            have hbo : Below wo.heap.size wo wr := (bal (b0 wo) _).trans (hb2.mono (by omega))
            have k5b := k5.below hb2 (by omega)
            have l5 := k5b.lt
            by_cases hlt2 : j < t.mt.length
            · obtain ⟨b3, o3, rfl, d0, d1⟩ := RL.at2 (fun x => .int .i64 x.block) (fun x => .string x.text) (fun _ => rfl) (hm.out.below hbo) hlt2
              have hs := hms.out j hlt2
              have hWj := hW.out (metaF (revF g t.rev) (t.mt.take j)) t.mt[j].block t.mt[j].text
              rw [hs] at hWj
              have hBj := hB.out t.mt[j].block
              rw [hmk.out j hlt2] at hBj
              have hAj := hA.out t.rev t.mt[j].block (.slice ar t.rev.length cr)
              rw [hma.out j hlt2] at hAj
              clear hs
              generalize metaF (revF g t.rev) (t.mt.take j) = gj at *
              generalize t.mt[j] = x at *
              obtain ⟨ao, co, rfl⟩ := hown.form
              replace hWj := hid hWj; replace hBj := hid hBj; replace hAj := hid hAj
              have c3 := k5b.cell 3
              simp only [List.getElem?_toArray, List.getElem?_cons_zero, List.getElem?_cons_succ] at c3
              have k9 : Blk (wr.alloc (.cells #[.int .i64 x.block, .string x.text] 74)) wr.heap.size #[.int .i64 x.block, .string x.text] 74 := Blk.new wr _ _
              go_wp2_with (first
                | (go_at_call 52; go_loud ((with_reducible refine (hBj.out _).mono ?_); rintro e w1 ⟨rfl, rfl⟩))
                | (go_at_call 54; go_loud ((with_reducible refine (hAj.out _ (hr.out.below (bal hbo _)) n3).mono ?_); rintro e w1 ⟨rfl, rfl⟩))
                | (go_at_call 55; go_loud ((with_reducible refine (hWj.out _ _ (hown.alloc _).reads).mono ?_); rintro e w1 ⟨v1, rfl, hown1, hb1⟩; have nx3 := bgo (bal nx2 _) hb1; have hb3 := (allocB hb2 (by simp) _).trans (hb1.mono (by have := hb2.size; simp at this ⊢; omega)); have hown1' := hown1.mono (base' := w.heap.size) (by have := nx2.size; simp; omega))))
              go_roundw
              case rel => exact ⟨j + 1, by omega, by go_num, hown1', nx3, hb3⟩
              case measure => simp [intOf]; omega
            · obtain rfl : j = t.mt.length := by omega
              rw [hmn.out] at hown
              go_wp2
              go_roundw
              case rel => exact ⟨k + 1, by omega, by go_num, by rw [hge.out]; exact hown, nx2⟩
              case measure => simp [intOf]; omega
    · obtain rfl : k = l.length := by omega
      rw [List.take_length] at hown
      go_wp2
      go_ret
      exact ⟨_, rfl, hown, nx⟩
end Go.Proofs.YtjhmfljlclajnabDoor

namespace Go.Proofs.YtjhmfljlclajnabDoor
open Go.RowKit Wb
set_option linter.unusedVariables false
set_option linter.unusedSimpArgs false
set_option maxRecDepth 100000
set_option maxHeartbeats 4000000
theorem elemTxn : Elem Tryd.prog 40 30 10 128 := Elem.mk' (z := .agg #[.int .i64 0, .slice none 0 0, .slice none 0 0, .slice none 0 0, .bool false, .int .i64 0, .bool false, .int .i64 0, .bool false, .int .i64 0]) Tryd.underlying40 (by kernel_rfl) rfl

theorem law_txns (l : List Txn) (v : Value) (w : World) (h : RTxns w v l) :
    Calls Tryd.prog 21 #[v] w fun e w' => ∃ v', e = .returned v' ∧ OTxns w.heap.size 30 74 3 w' v' l ∧ Below w.heap.size w w' := by
  obtain ⟨a, cap, rfl, hl⟩ := h.form
  have hC := fun t v w (hh : RTxn w v t) => ref_CopyTxn t v w hh
  have hst := fun k (hk : k < l.length) => List.take_succ_eq_append_getElem hk
  have h0 : l.take 0 = [] := rfl
  replace h := hid h; replace hC := hid hC; replace hst := hid hst; replace h0 := hid h0
  go_enter Tryd.func21, Tryd.ntmps21
  go_wp2
  go_loopw [3, 8] (fun o i wr => ∃ k : Nat, k ≤ l.length ∧ i = .int .i64 k ∧ OTxns w.heap.size 30 74 3 wr o (l.take k) ∧ Below w.heap.size w wr) (fun _ i _ => l.length - (intOf i).toNat)
  case atStart => exact ⟨0, Nat.zero_le _, rfl, by rw [h0.out]; exact OTxns.nil _ _ _ _ _, b0 w⟩
  case round =>
    obtain ⟨k, hk, rfl, hown, nx⟩ := hrel
    by_cases hlt : k < l.length
    · obtain ⟨b1, o1, am, cm, ad, cd, ar, cr, rfl, hrt, c0, c1, c2, c3, c4, c5, c6, c7, c8, c9⟩ := (h.out.below nx).at3 hlt
      have hstk := hst.out k hlt
      have hlk : (l.take k).length ≤ 1099511627743 := by rw [List.length_take]; omega
      generalize hl2 : l.take (k + 1) = l2 at *
      replace hl2 := hid hl2
      generalize l.take k = l1 at *
      generalize l[k] = t at *
      obtain ⟨xs, hox, hxm, hxo⟩ := hown
      have hxl : xs.length = l1.length := by rw [← hxm]; simp
      have hxl2 : xs.length ≤ 1099511627743 := by omega
      replace hxl := hid hxl; replace hxm := hid hxm; replace hxo := hid hxo
      replace hrt := hid hrt
      replace hstk := hid hstk
      go_wp2_with (first
        | (go_at_call 7; go_loud ((refine (hC.out t _ _ (hrt.out.below (bal (b0 wr) _))).mono ?_); rintro e w1 ⟨v1, rfl, hot, hb1⟩; obtain ⟨y, hyt, hv, hoy⟩ := hot.tv; obtain ⟨ty, ⟨q1, q2, q3⟩, ⟨q4, q5, q6⟩, ⟨q7, q8, q9⟩⟩ := y; subst hyt; dsimp only [TV.val, txnV, SlV.val] at hv; subst hv; have nx1 := bgo (bal nx _) hb1; have hox1 := (hox.alloc _).below hb1; have hxo1 := hid (fun x hx => ((hxo.out x hx).below (bgo (bal (b0 wr) _) hb1))); have hoy2 := hid (hoy.mono (b2 := w.heap.size) (by have := nx.size; simp; omega)); clear hox hoy hot))
        | (at_builtin; go_loud (refine wpList_push rfl _ _ _ rfl w.heap.size _ 10 128 tvC_flat elemTxn hox1 rfl ⟨ty, ⟨q1, q2, q3⟩, ⟨q4, q5, q6⟩, ⟨q7, q8, q9⟩⟩ rfl rfl (by omega) (by unfold maxLen; omega) nx1.size ?_); intro v7 w7 hown7 hbel7 hg7))
      have hp := OTxns.pushed hox1 hxo1.out hoy2.out (by decide) (by decide) hown7 hg7
      rw [hxm.out] at hp
      dsimp only at hp
      rw [← hstk.out] at hp
      replace hp := hid hp
      go_wp2
      go_roundw
      case rel => exact ⟨k + 1, by omega, by go_num, by rw [hl2.out]; exact hp.out, nx1.trans hbel7⟩
      case measure => simp [intOf]; omega
    · obtain rfl : k = l.length := by omega
      rw [List.take_length] at hown
      go_wp2
      go_ret
      exact ⟨_, rfl, hown, nx⟩

theorem law_good (l : List Txn) (v : Value) (w : World) (h : RTxns w v l) :
    Calls Tryd.prog 19 #[v] w fun e w' => e = .returned (.bool (l.all goodT)) ∧ Below w.heap.size w w' := by
  obtain ⟨a, cap, rfl, hl⟩ := h.form
  have hG := fun t v w (hh : RTxn w v t) => ref_GoodTxn t v w hh
  have hno := fun k (hk : k < l.length) (hn : goodT l[k] = false) => all_no (p := goodT) hk hn
  have hst := fun k (hk : k < l.length) hh (hn : goodT l[k] = true) => all_step (p := goodT) hk hh hn
  replace h := hid h; replace hG := hid hG; replace hst := hid hst; replace hno := hid hno
  go_enter Tryd.func19, Tryd.ntmps19
  go_wp2
  go_loopw [7] (fun i wr => ∃ k : Nat, k ≤ l.length ∧ i = .int .i64 k ∧ Hid ((l.take k).all goodT = true) ∧ Below w.heap.size w wr) (fun i _ => l.length - (intOf i).toNat)
  case atStart => exact ⟨0, Nat.zero_le _, rfl, hid rfl, b0 w⟩
  case round =>
    obtain ⟨k, hk, rfl, hall, nx⟩ := hrel
    by_cases hlt : k < l.length
    · obtain ⟨b1, o1, am, cm, ad, cd, ar, cr, rfl, hrt, c0, c1, c2, c3, c4, c5, c6, c7, c8, c9⟩ := (h.out.below nx).at3 hlt
      have hnk := hno.out k hlt
      have hsk := hst.out k hlt hall.out
      generalize l[k] = t at *
      have hGt := hG.out t
      replace hrt := hid hrt; replace hnk := hid hnk; replace hsk := hid hsk
      cases hg : goodT t with
      | true =>
        rw [hg] at hGt
        have hs := hid (hsk.out hg)
        clear hg
        replace hGt := hid hGt
        go_wp2_with (go_at_call 43; go_loud ((refine (hGt.out _ _ (hrt.out.below (bal (b0 wr) _))).mono ?_); rintro e w1 ⟨rfl, hb1⟩; have nx1 := bgo (bal nx _) hb1))
        go_roundw
        case rel => exact ⟨k + 1, by omega, by go_num, hs, nx1⟩
        case measure => simp [intOf]; omega
      | false =>
        rw [hg] at hGt
        have hs := hid (hnk.out hg)
        clear hg
        replace hGt := hid hGt
        go_wp2_with (go_at_call 43; go_loud ((refine (hGt.out _ _ (hrt.out.below (bal (b0 wr) _))).mono ?_); rintro e w1 ⟨rfl, hb1⟩; have nx1 := bgo (bal nx _) hb1))
        go_ret
        exact ⟨ret_b hs.out.symm, nx1⟩
    · obtain rfl : k = l.length := by omega
      have hv := hall.out
      rw [List.take_length] at hv
      replace hv := hid hv
      go_wp2
      go_ret
      exact ⟨ret_b hv.out.symm, nx⟩
end Go.Proofs.YtjhmfljlclajnabDoor

namespace Go.Proofs.YtjhmfljlclajnabDoor
open Go.RowKit Wb
set_option linter.unusedVariables false
set_option linter.unusedSimpArgs false
set_option maxRecDepth 100000
set_option maxHeartbeats 4000000

theorem disk_Read (d : Dsk) (n : Int) (v : Value) (w : World) (hd : RDisk w v d) :
    Calls Tryd.prog 29 #[v, .int .i64 n] w fun e w' => e = .returned (.tuple #[.string (readD d n), .int .i64 (readE d n)]) ∧ Below w.heap.size w w' := by
  have hG := fun w (hh : RDisk w v d) => disk_Good d v w hh
  have hA := fun w => disk_at n w
  have hd2 := hd
  obtain ⟨vs, vw, rfl, hs, hw, n1, n2⟩ := hd
  obtain ⟨a, cap, rfl, _⟩ := hs.form
  obtain ⟨b, bcap, rfl, _⟩ := hw.form
  replace hd2 := hid hd2
  by_cases hg : goodD d = true
  · rw [hg] at hG
    by_cases ha : isAt n = true
    · rw [ha] at hA
      have hr : readD d n = lastT (safeAt d n) n (d.writes.take d.writes.length) := by unfold readD; rw [if_pos ⟨hg, ha⟩, List.take_length]
      have he : readE d n = 0 := by unfold readE; rw [if_pos ⟨hg, ha⟩]
      rw [he]
      obtain ⟨g1, g2, _, _⟩ := (goodD_iff d).1 hg
      obtain ⟨h0, h1⟩ : 0 ≤ n ∧ n < 37 := of_decide_eq_true ha
      obtain ⟨m, rfl⟩ : ∃ m : Nat, n = m := ⟨n.toNat, by omega⟩
      have hm : m < d.safe.length := by omega
      have hsf : safeAt d m = d.safe[m] := by simp [safeAt, hm]
      rw [hsf] at hr
      clear hg ha he hsf
      generalize readD d m = r at *
      obtain ⟨safe, writes⟩ := d
      dsimp only at *
      have hlast := fun (k : Nat) (hk : k < writes.length) => lastT_hit safe[m] m hk
      have hmiss := fun (k : Nat) (hk : k < writes.length) => lastT_miss safe[m] m hk
      have hl0 := lastT_nil safe[m] m
      have hm3 : m < safe.length := hm
      replace hs := hid hs
      replace hw := hid hw
      replace hG := hid hG
      replace hA := hid hA
      replace hr := hid hr
      replace g1 := hid g1
      replace hlast := hid hlast
      replace hmiss := hid hmiss
      replace hl0 := hid hl0
      replace hm3 := hid hm3
      go_enter Tryd.func29, Tryd.ntmps29
      go_wp2_with (first
        | (go_at_call 56; refine (hG.out _ (hd2.out.below (by repeat (first | exact Below.refl _ _ | with_reducible assumption | (refine allocB ?_ (by first | omega | (simp; done) | (simp; omega)) _) | (refine Below.setCell ?_ (by first | omega | (simp; done) | (simp; omega)) _) | refine Below.drew ?_ | (refine Below.trans ?_ (Below.mono (by with_reducible assumption) (by first | omega | (simp; done) | (simp; omega)))))))).mono ?_; rintro e w1 ⟨rfl, hb1⟩; obtain ⟨hbc, hbf⟩ := bcell hb1; have hbz := hb1.size; try simp only [World.size_alloc, World.size_setCell, World.size_drew] at hbz; have hz0 := Nat.lt_of_lt_of_le (n := w.heap.size) (by omega) hbz)
        | (go_at_call 61; refine (hA.out _).mono ?_; rintro e w2 ⟨rfl, rfl⟩))
      have kb : Blk w1 w.heap.size #[.slice a safe.length cap, .slice b writes.length bcap] 55 := (Blk.new w _ _).step hb1
      have hnx : Below w.heap.size w w1 := by repeat (first | exact Below.refl _ _ | with_reducible assumption | (refine allocB ?_ (by first | omega | (simp; done) | (simp; omega)) _) | (refine Below.setCell ?_ (by first | omega | (simp; done) | (simp; omega)) _) | refine Below.drew ?_ | (refine Below.trans ?_ (Below.mono (by with_reducible assumption) (by first | omega | (simp; done) | (simp; omega)))))
      clear hb1 hbc hbf
      have lt0 := kb.lt
      have c0 := kb.cell 0
      have c1 := kb.cell 1
      simp only [List.getElem?_toArray, List.getElem?_cons_zero, List.getElem?_cons_succ] at c0 c1
      go_loop [6] (fun i => ∃ k : Nat, k ≤ writes.length ∧ i = .int .i64 ((k : Int) - 1) ∧ Hid (r = lastT safe[m] m (writes.take k))) (fun i => (intOf i + 1).toNat)
      case atStart => exact ⟨writes.length, Nat.le_refl _, rfl, hr.out⟩
      case round =>
        obtain ⟨k, hk, rfl, hrk⟩ := hrel
        rcases Nat.eq_zero_or_pos k with hk0 | hk0
        · subst hk0
          obtain ⟨b2, off, rfl, d0⟩ := RL.at1 (fun x => .string x) (fun _ => rfl) (hs.out.below hnx) hm3.out
          have hrs : r = safe[m] := by rw [hrk.out, List.take_zero]; exact hl0.out
          replace hrs := hid hrs
          clear hrk
          generalize safe[m] = sm at *
          go_wp2
          go_ret2
          exact ⟨ret_st hrs.out.symm, hnx⟩
        · obtain ⟨j, rfl⟩ : ∃ j, k = j + 1 := ⟨k - 1, by omega⟩
          have hj : j < writes.length := by omega
          obtain ⟨b2, off, rfl, d0, d1⟩ := RL.at2 (fun x => .int .i64 x.at_) (fun x => .string x.text) (fun _ => rfl) (hw.out.below hnx) hj
          by_cases heq : writes[j].at_ = m
          · have hrs : r = writes[j].text := by rw [hrk.out]; exact hlast.out j hj heq
            replace hrs := hid hrs
            have e1 : (writes[j].at_ == (m : Int)) = true := beq_iff_eq.2 heq
            clear hrk heq
            generalize writes[j] = x at *
            go_wp2
            go_ret2
            exact ⟨ret_st hrs.out.symm, hnx⟩
          · have hrs : r = lastT safe[m] m (writes.take j) := by rw [hrk.out]; exact hmiss.out j hj heq
            replace hrs := hid hrs
            have e1 : (writes[j].at_ == (m : Int)) = false := beq_eq_false_iff_ne.2 heq
            clear hrk heq
            generalize writes[j] = x at *
            go_wp2
            go_round
            case rel => exact ⟨j, by omega, by go_num, hrs⟩
            case measure => simp [intOf]
    · have hr : readD d n = ⟨#[]⟩ := by unfold readD; rw [if_neg (fun hh => ha hh.2)]
      have he : readE d n = 2 := by unfold readE; rw [if_neg (fun hh => ha hh.2)]
      rw [hr, he]
      rw [Bool.not_eq_true _ |>.mp ha] at hA
      clear hs hw ha hg hr he
      replace hG := hid hG
      replace hA := hid hA
      go_enter Tryd.func29, Tryd.ntmps29
      go_wp2_with (first
        | (go_at_call 56; refine (hG.out _ (hd2.out.below (by repeat (first | exact Below.refl _ _ | with_reducible assumption | (refine allocB ?_ (by first | omega | (simp; done) | (simp; omega)) _) | (refine Below.setCell ?_ (by first | omega | (simp; done) | (simp; omega)) _) | refine Below.drew ?_ | (refine Below.trans ?_ (Below.mono (by with_reducible assumption) (by first | omega | (simp; done) | (simp; omega)))))))).mono ?_; rintro e w1 ⟨rfl, hb1⟩; obtain ⟨hbc, hbf⟩ := bcell hb1; have hbz := hb1.size; try simp only [World.size_alloc, World.size_setCell, World.size_drew] at hbz; have hz0 := Nat.lt_of_lt_of_le (n := w.heap.size) (by omega) hbz)
        | (go_at_call 61; refine (hA.out _).mono ?_; rintro e w2 ⟨rfl, rfl⟩))
      go_ret2
      exact ⟨rfl, by repeat (first | exact Below.refl _ _ | with_reducible assumption | (refine allocB ?_ (by first | omega | (simp; done) | (simp; omega)) _) | (refine Below.setCell ?_ (by first | omega | (simp; done) | (simp; omega)) _) | refine Below.drew ?_ | (refine Below.trans ?_ (Below.mono (by with_reducible assumption) (by first | omega | (simp; done) | (simp; omega)))))⟩
  · have hr : readD d n = ⟨#[]⟩ := by unfold readD; rw [if_neg (fun hh => hg hh.1)]
    have he : readE d n = 2 := by unfold readE; rw [if_neg (fun hh => hg hh.1)]
    rw [hr, he]
    rw [Bool.not_eq_true _ |>.mp hg] at hG
    clear hs hw hg hr he
    replace hG := hid hG
    go_enter Tryd.func29, Tryd.ntmps29
    go_wp2_with (go_at_call 56; refine (hG.out _ (hd2.out.below (by repeat (first | exact Below.refl _ _ | with_reducible assumption | (refine allocB ?_ (by first | omega | (simp; done) | (simp; omega)) _) | (refine Below.setCell ?_ (by first | omega | (simp; done) | (simp; omega)) _) | refine Below.drew ?_ | (refine Below.trans ?_ (Below.mono (by with_reducible assumption) (by first | omega | (simp; done) | (simp; omega)))))))).mono ?_; rintro e w1 ⟨rfl, hb1⟩; obtain ⟨hbc, hbf⟩ := bcell hb1; have hbz := hb1.size; try simp only [World.size_alloc, World.size_setCell, World.size_drew] at hbz; have hz0 := Nat.lt_of_lt_of_le (n := w.heap.size) (by omega) hbz)
    go_ret2
    exact ⟨rfl, by repeat (first | exact Below.refl _ _ | with_reducible assumption | (refine allocB ?_ (by first | omega | (simp; done) | (simp; omega)) _) | (refine Below.setCell ?_ (by first | omega | (simp; done) | (simp; omega)) _) | refine Below.drew ?_ | (refine Below.trans ?_ (Below.mono (by with_reducible assumption) (by first | omega | (simp; done) | (simp; omega)))))⟩
end Go.Proofs.YtjhmfljlclajnabDoor

namespace Wb
open Go Go.RowKit
theorem gB {w w' : World} (h : Below w.heap.size w w') (row : Option Nat) : w.grownBy w' row := ⟨h.os, h.tape, h.output, h.size, fun k hk _ => h.block k hk⟩
theorem gSet {w w' : World} {b : Nat} (h : w.grownBy w' (some b)) (i : Nat) (v : Value) : w.grownBy (w'.setCell ⟨b, i, none⟩ v) (some b) :=
  ⟨h.os, h.tape, h.output, by simpa using h.size, fun k hk hne => by rw [Below.heap_setCell w' ⟨b, i, none⟩ v k (fun hh => hne (by rw [hh]))]; exact h.block k hk hne⟩
theorem gBelow {B b : Nat} {W w w' : World} (h : w.grownBy w' (some b)) (hw : Below B W w) (hs : B ≤ w.heap.size) (hb : B ≤ b) : Below B W w' :=
  hw.grown h hs (fun k hk => by cases hk; exact hb)
theorem gTrans {w w1 w2 : World} {row : Option Nat} (h : w.grownBy w1 row) (h2 : w1.grownBy w2 row) : w.grownBy w2 row :=
  ⟨h2.os.trans h.os, h2.tape.trans h.tape, h2.output.trans h.output, Nat.le_trans h.size h2.size, fun k hk hne => (h2.block k (Nat.lt_of_lt_of_le hk h.size) hne).trans (h.block k hk hne)⟩
end Wb
namespace Go.Proofs.YtjhmfljlclajnabDoor
open Go.RowKit Wb
set_option linter.unusedVariables false
set_option linter.unusedSimpArgs false
set_option maxRecDepth 100000
set_option maxHeartbeats 2000000

theorem scan_next0 (br : Nat) (vs vw : Value) (a : Int) (w : World) (k : Blk w br #[vs, vw, .int .i64 a, .int .i64 0] 108) :
    Calls Tryd.prog 82 #[.pointer (some ⟨br, 0, none⟩)] w fun e w' => e = .returned (.tuple #[.string ⟨#[]⟩, .bool false]) ∧ w = w' := by
  have c3 := k.cell 3
  simp only [List.getElem?_toArray, List.getElem?_cons_zero, List.getElem?_cons_succ] at c3
  go_enter Tryd.func82, Tryd.ntmps82
  go_wp2
  go_ret2
  exact ⟨rfl, rfl⟩

theorem scan_next1 (d : Dsk) (br : Nat) (vs vw : Value) (a lf : Int) (w : World) (hd : RDisk w (.agg #[vs, vw]) d) (k : Blk w br #[vs, vw, .int .i64 a, .int .i64 lf] 108)
    (a0 : 0 ≤ a) (a1 : a < 24) (l0 : 0 < lf) (l1 : lf ≤ 24) :
    Calls Tryd.prog 82 #[.pointer (some ⟨br, 0, none⟩)] w fun e w' => e = .returned (.tuple #[.string (readD d (1 + a)), .bool true]) ∧ Blk w' br #[vs, vw, .int .i64 ((a + 1) % 24), .int .i64 (lf - 1)] 108 ∧ w.grownBy w' (some br) := by
  have hR := fun w (hh : RDisk w (.agg #[vs, vw]) d) => disk_Read d (1 + a) _ w hh
  have c0 := k.cell 0; have c1 := k.cell 1; have c2 := k.cell 2; have c3 := k.cell 3
  simp only [List.getElem?_toArray, List.getElem?_cons_zero, List.getElem?_cons_succ] at c0 c1 c2 c3
  have hlf : (lf == 0) = false := beq_eq_false_iff_ne.2 (by omega)
  have lt := k.lt
  obtain ⟨vs', vw', hv, hs, hw, n1, n2⟩ := hd
  have hd : RDisk w (.agg #[vs, vw]) d := ⟨vs', vw', hv, hs, hw, n1, n2⟩
  simp only [Value.agg.injEq, Array.mk.injEq, List.cons.injEq, and_true] at hv
  obtain ⟨rfl, rfl⟩ := hv
  obtain ⟨as_, cs, rfl, _⟩ := hs.form
  obtain ⟨aw, cw, rfl, _⟩ := hw.form
  clear hs hw
  generalize readD d (1 + a) = s at *
  generalize readE d (1 + a) = e at *
  have ha : IntKind.i64.wrap (1 + a) = 1 + a := IntWalk.i64_in _ (by omega)
  replace hR := hid hR; replace hd := hid hd
  go_enter Tryd.func82, Tryd.ntmps82
  go_wp2
  (refine wp_region_below (by kernel_rfl) (by kernel_rfl) ?_); (repeat (go_big_quiet_step ((first | (go_at_call 29; exact BW.call (hR.out _ (hd.out.below (BW.below _)))))) )); refine wpQuiet_nil ?_; intro wq hw'; obtain ⟨⟨_, hb1⟩, rfl⟩ := hw'
  have k' := k.step hb1
  have c2' := k'.cell 2; have c3' := k'.cell 3
  have f2 := k'.free 2; have f3 := k'.free 3
  have lt' := k'.lt
  simp only [List.getElem?_toArray, List.getElem?_cons_zero, List.getElem?_cons_succ] at c2' c3'
  have g := gSet (gSet (gB hb1 (some br)) 2 (.int .i64 ((a + 1) % 24))) 3 (.int .i64 (lf - 1))
  have k2 := (k'.set 2 (.int .i64 ((a + 1) % 24))).set 3 (.int .i64 (lf - 1))
  replace g := hid g; replace k2 := hid k2
  clear c0 c1 c2 c3 k
  go_wp2
  go_ret2
  exact ⟨rfl, k2.out, g.out⟩
end Go.Proofs.YtjhmfljlclajnabDoor

namespace Wb
open Go Go.RowKit
/-- The reader's cells, n blocks ahead of the end. -/
def rdrC (vs vw : Value) (A : Int) (n : Nat) : Array Value := #[vs, vw, .int .i64 ((A + (24 - (n : Int))) % 24), .int .i64 (n : Int)]
theorem Own.grownBlk {α : Type} {f : α → List Value} {base : Nat} {e : TypeId} {c : Nat} {w w' : World} {v : Value} {l : List α} (h : Own f base e c w v l) {b : Nat} {cs : Array Value} {t : TypeId} (hb : Blk w b cs t) (hne : e ≠ t) (hg : w.grownBy w' (some b)) : Own f base e c w' v l := by
  refine h.grown hg ?_
  cases hv : v.ownBlock with
  | none => exact .inl rfl
  | some g =>
    refine .inr fun hh => ?_
    obtain ⟨c1, h1⟩ := h.cellsOf hv
    cases hh
    unfold Blk at hb
    rw [h1] at hb
    simp only [Option.some.injEq, Obj.cells.injEq] at hb
    exact hne hb.2.1
end Wb
namespace Go.Proofs.YtjhmfljlclajnabDoor
open Go.RowKit Wb
set_option linter.unusedVariables false
set_option linter.unusedSimpArgs false
set_option maxRecDepth 100000
set_option maxHeartbeats 8000000

theorem next_nil (br : Nat) (vs vw : Value) (A : Int) (w : World) (k : Blk w br (rdrC vs vw A 0) 108) :
    Calls Tryd.prog 82 #[.pointer (some ⟨br, 0, none⟩)] w fun e w' => e = .returned (.tuple #[.string ⟨#[]⟩, .bool false]) ∧ w = w' := scan_next0 br vs vw _ w k
theorem next_cons (d : Dsk) (br : Nat) (vs vw : Value) (A : Int) (s : ByteArray) (r : List ByteArray) (w : World) (hd : RDisk w (.agg #[vs, vw]) d) (k : Blk w br (rdrC vs vw A (r.length + 1)) 108) (hs : sfx d A (s :: r)) :
    Calls Tryd.prog 82 #[.pointer (some ⟨br, 0, none⟩)] w fun e w' => e = .returned (.tuple #[.string s, .bool true]) ∧ Blk w' br (rdrC vs vw A r.length) 108 ∧ w.grownBy w' (some br) := by
  obtain ⟨h1, h2, h3⟩ := sfx_cons hs
  have := scan_next1 d br vs vw ((A + (24 - ((r.length + 1 : Nat) : Int))) % 24) ((r.length + 1 : Nat) : Int) w hd k (Int.emod_nonneg _ (by decide)) (Int.emod_lt_of_pos _ (by decide)) (by omega) (by omega)
  rw [h2] at this
  have e1 : ((A + (24 - ((r.length + 1 : Nat) : Int))) % 24 + 1) % 24 = (A + (24 - (r.length : Int))) % 24 := by omega
  have e2 : ((r.length + 1 : Nat) : Int) - 1 = (r.length : Int) := by omega
  rw [e1, e2] at this
  exact this
end Go.Proofs.YtjhmfljlclajnabDoor
