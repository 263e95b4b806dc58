/- The walks of txn: find, has, copies. The walk of CopyTxn. The walks of package slices: Clone, Index, Contains, IndexFunc. Rows of elements: copies onto owned rows, for the walk. No program in sight. The walks of package slices: DeleteFunc. The walk of seal.Newest. The walks of FitText and byteOf; what a text as a block is. DERIVED: THE SHELF's CONTRACTS AT THIS DUMP, IN PLAIN WORDS (tools/lay-plain.mjs out of 'TrydYtjhmfljlclajnabDoorShelfRaw.lean', which tools/lay-shelf.mjs wrote): THE SAME DECLARATIONS UNDER THE SAME NAMES: 'import', 'namespace', 'open', 'def', 'theorem' AND NOTHING ELSE: no command of the shelf's: FOR A HAND-IN. Each laying: the table of numbers ('.._ren') and one theorem, a field a fact of the dump's own or the kernel's comparison; each contract: ONE APPLICATION. The walk of disk.Fit. -/
import Derived.Test.YtjhmfljlclajnabDoorKSealCommits0
import Derived.Test.YtjhmfljlclajnabDoorKSealCommits2
import Derived.Test.YtjhmfljlclajnabDoorKSealCommits4
import Derived.Deep.LoopGhost
import Derived.Deep.QuietTactic
import Derived.BigQuiet
import Derived.Lib.SmallJoins
import Derived.Deep.CutBlock
import Derived.Deep.DeepCutAuto
import Derived.Test.YtjhmfljlclajnabDoorRows
import Derived.Test.YtjhmfljlclajnabDoorKSealCommits1
import Derived.Shelf.Strings.Builder1
import Derived.Shelf.Strings.Builder2
import Derived.Shelf.Strings.BuilderF
import Derived.Shelf.Strings.Prefix
import Derived.Shelf.Bits.Mul64
import Derived.Shelf.Strings.Repeat
import Derived.Ground.Names2Prog
import Derived.Shelf.Slices.Clone
import Derived.Test.YtjhmfljlclajnabDoorProg
namespace Go.Proofs.YtjhmfljlclajnabDoor
open Go.RowKit Wb
set_option linter.unusedVariables false
set_option linter.unusedSimpArgs false
set_option maxRecDepth 100000
set_option maxHeartbeats 4000000
theorem txn_block (b : Int) (w : World) : Calls Tryd.prog 48 #[.int .i64 b] w fun e w' => e = .returned (.bool (isBlk b)) ∧ w = w' := by
  by_cases h0 : 0 ≤ b
  · by_cases h1 : b < 12
    · have hv : isBlk b = true := decide_eq_true ⟨h0, h1⟩
      rw [hv]
      go_enter Tryd.func48, Tryd.ntmps48
      go_wp2
      go_ret
      exact ⟨rfl, rfl⟩
    · have hv : isBlk b = false := decide_eq_false fun hh => h1 hh.2
      rw [hv]
      go_enter Tryd.func48, Tryd.ntmps48
      go_wp2
      go_ret
      exact ⟨rfl, rfl⟩
  · have hv : isBlk b = false := decide_eq_false fun hh => h0 hh.1
    rw [hv]
    go_enter Tryd.func48, Tryd.ntmps48
    go_wp2
    go_ret
    exact ⟨rfl, rfl⟩
theorem txn_find1 (c : Cpy) (b : Int) (w : World) : Calls Tryd.prog 90 #[.agg #[.int .i64 c.block, .string c.text], .int .i64 b] w fun e w' => e = .returned (.int .i64 (cmpI c.block b)) ∧ Below w.heap.size w w' := by
  obtain ⟨x, s⟩ := c
  have k0 := Blk.new w #[.int .i64 x, .string s] 74
  have c0 := k0.cell 0; have c1 := k0.cell 1
  simp only [List.getElem?_toArray, List.getElem?_cons_zero, List.getElem?_cons_succ] at c0 c1
  dsimp only
  by_cases h1 : x < b
  · rw [cmpI_lt h1]
    go_enter Tryd.func90, Tryd.ntmps90
    go_wp2
    go_ret
    exact ⟨rfl, bal (b0 w) _⟩
  · by_cases h2 : b < x
    · rw [cmpI_gt h2]
      go_enter Tryd.func90, Tryd.ntmps90
      go_wp2
      go_ret
      exact ⟨rfl, bal (b0 w) _⟩
    · have h3 : x = b := by omega
      rw [cmpI_eq h3]
      subst h3
      go_enter Tryd.func90, Tryd.ntmps90
      go_wp2
      go_ret
      exact ⟨rfl, bal (b0 w) _⟩

theorem slices_BinarySearchC (l : List Cpy) (b : Int) (v : Value) (w : World) (hs : rise (blks l) = true) (h : RL cpyC w v l) (hl : l.length ≤ 5864062014805) :
    Calls Tryd.prog 89 #[v, .int .i64 b, .func (.func 90) #[] #[]] w fun e w' => e = .returned (.tuple #[.int .i64 (posB l b : Nat), .bool (hasB l b)]) ∧ Below w.heap.size w w' := by
  obtain ⟨a, cap, rfl, _⟩ := h.form
  have hr := hid (rises hs)
  have hpo := hid (fun i h0 h1 h2 => pos_of (l := l) (b := b) (i := i) h0 h1 h2)
  have hha := hid (fun i h1 h2 => has_of (l := l) (b := b) (i := i) hr.out h1 h2)
  generalize posB l b = p at *
  generalize hasB l b = hb at *
  have hC := fun c w => txn_find1 c b w
  replace h := hid h; replace hC := hid hC
  clear hs
  go_enter Tryd.func89, Tryd.ntmps89
  go_wp2
  go_loopg [9, 10] l.length (fun kx s9 s10 wr => ∃ lo hi : Nat, s9 = .int .i64 lo ∧ s10 = .int .i64 hi ∧ lo ≤ hi ∧ hi ≤ l.length ∧ hi - lo ≤ kx ∧ Below w.heap.size w wr ∧ Hid (∀ k (hk : k < l.length), k < lo → l[k].block < b) ∧ Hid (∀ k (hk : k < l.length), hi ≤ k → b ≤ l[k].block))
  case atStart => exact ⟨0, l.length, rfl, rfl, Nat.zero_le _, Nat.le_refl _, by omega, b0 w, hid (fun k _ hk => absurd hk (Nat.not_lt_zero k)), hid (fun k hk h2 => by omega)⟩
  case round =>
    obtain ⟨lo, hi, rfl, rfl, hlh, hin, hg, nx, i1, i2⟩ := hrel
    by_cases hlt : lo < hi
    · have hm : (lo + hi) / 2 < l.length := by omega
      obtain ⟨b1, o1, rfl, c0, c1⟩ := RL.at2 (fun x => .int .i64 x.block) (fun x => .string x.text) (fun _ => rfl) (h.out.below nx) hm
      have j1 := hid (fun (hh : l[(lo + hi) / 2].block < b) => (show ∀ k (hk : k < l.length), k < (lo + hi) / 2 + 1 → l[k].block < b from fun k hk hk2 => by
        by_cases e : k = (lo + hi) / 2
        · subst e; exact hh
        · have := hr.out _ hm k (by omega); omega))
      have j2 := hid (fun (hh : b ≤ l[(lo + hi) / 2].block) => (show ∀ k (hk : k < l.length), (lo + hi) / 2 ≤ k → b ≤ l[k].block from fun k hk hk2 => by
        by_cases e : k = (lo + hi) / 2
        · subst e; exact hh
        · have := hr.out k hk _ (show (lo + hi) / 2 < k by omega); omega))
      generalize l[(lo + hi) / 2] = x at *
      have hCx := hC.out x
      by_cases hx : x.block < b
      · rw [cmpI_lt hx] at hCx
        replace j1 := hid (j1.out hx)
        replace hCx := hid hCx
        clear j2
        go_wp2_with (go_at_call 90; go_loud ((with_reducible refine (hCx.out _).mono ?_); rintro e w1 ⟨rfl, hb1⟩))
        go_roundg (hi - ((lo + hi) / 2 + 1))
        case measure => omega
        case rel => exact ⟨(lo + hi) / 2 + 1, hi, by rw [show ((lo : Int) + (hi : Int)) / 2 + 1 = (((lo + hi) / 2 + 1 : Nat) : Int) by omega], rfl, by omega, hin, Nat.le_refl _, bgo nx hb1, j1, i2⟩
      · have hnn : ¬ cmpI x.block b < 0 := by
          by_cases h2 : b < x.block
          · rw [cmpI_gt h2]; decide
          · rw [cmpI_eq (by omega)]; decide
        generalize cmpI x.block b = cv at *
        replace j2 := hid (j2.out (by omega))
        replace hCx := hid hCx
        clear j1 hx
        go_wp2_with (go_at_call 90; go_loud ((with_reducible refine (hCx.out _).mono ?_); rintro e w1 ⟨rfl, hb1⟩))
        go_roundg ((lo + hi) / 2 - lo)
        case measure => omega
        case rel => exact ⟨lo, (lo + hi) / 2, rfl, by rw [show ((lo : Int) + (hi : Int)) / 2 = (((lo + hi) / 2 : Nat) : Int) by omega], by omega, by omega, Nat.le_refl _, bgo nx hb1, i1, j2⟩
    · obtain rfl : hi = lo := by omega
      have hp := hid (hpo.out hi hin i1.out i2.out)
      have hh := hid (hha.out hi i1.out i2.out)
      by_cases hn : hi < l.length
      · obtain ⟨b1, o1, rfl, c0, c1⟩ := RL.at2 (fun x => .int .i64 x.block) (fun x => .string x.text) (fun _ => rfl) (h.out.below nx) hn
        have hge := i2.out hi hn (Nat.le_refl _)
        have hh2 : hb = true ↔ l[hi].block = b := ⟨fun h => (hh.out.1 h).2, fun h => hh.out.2 ⟨hn, h⟩⟩
        clear i1 i2 hh
        generalize l[hi] = x at *
        have hCx := hC.out x
        by_cases hx : x.block = b
        · have hv := hid (hh2.2 hx)
          rw [cmpI_eq hx] at hCx
          replace hCx := hid hCx
          clear hx hge hh2
          go_wp2_with (go_at_call 90; go_loud ((with_reducible refine (hCx.out _).mono ?_); rintro e w1 ⟨rfl, hb1⟩))
          go_ret2
          exact ⟨by rw [hp.out, hv.out]; rfl, bgo nx hb1⟩
        · have hv := hid (show hb = false by
            cases hbv : hb with
            | false => rfl
            | true => exact absurd (hh2.1 hbv) hx)
          rw [cmpI_gt (by omega)] at hCx
          replace hCx := hid hCx
          clear hx hge hh2
          go_wp2_with (go_at_call 90; go_loud ((with_reducible refine (hCx.out _).mono ?_); rintro e w1 ⟨rfl, hb1⟩))
          go_ret2
          exact ⟨by rw [hp.out, hv.out]; rfl, bgo nx hb1⟩
      · have hv := hid (show hb = false by
          cases hbv : hb with
          | false => rfl
          | true => obtain ⟨h1, _⟩ := hh.out.1 hbv; omega)
        clear hh i1 i2
        go_wp2
        go_ret2
        exact ⟨by rw [hp.out, hv.out]; rfl, nx⟩

theorem txn_find (l : List Cpy) (b : Int) (v : Value) (w : World) (hs : rise (blks l) = true) (h : RL cpyC w v l) (hl : l.length ≤ 5864062014805) :
    Calls Tryd.prog 74 #[v, .int .i64 b] w fun e w' => e = .returned (.tuple #[.int .i64 (posB l b : Nat), .bool (hasB l b)]) ∧ Below w.heap.size w w' := by
  have hB := hid (slices_BinarySearchC l b v w hs h hl)
  obtain ⟨a, cap, rfl, _⟩ := h.form
  generalize posB l b = p at *
  clear h hs
  go_enter Tryd.func74, Tryd.ntmps74
  go_wp2_with (go_at_call 89; go_loud ((with_reducible refine hB.out.mono ?_); rintro e w1 ⟨rfl, hb1⟩))
  go_ret2
  exact ⟨rfl, hb1⟩
theorem txn_has (l : List Cpy) (b : Int) (v : Value) (w : World) (hs : rise (blks l) = true) (h : RL cpyC w v l) (hl : l.length ≤ 5864062014805) :
    Calls Tryd.prog 49 #[v, .int .i64 b] w fun e w' => e = .returned (.bool (hasB l b)) ∧ Below w.heap.size w w' := by
  have hB := hid (txn_find l b v w hs h hl)
  obtain ⟨a, cap, rfl, _⟩ := h.form
  clear h hs
  go_enter Tryd.func49, Tryd.ntmps49
  go_wp2_with (go_at_call 74; go_loud ((with_reducible refine hB.out.mono ?_); rintro e w1 ⟨rfl, hb1⟩))
  go_ret
  exact ⟨rfl, hb1⟩
end Go.Proofs.YtjhmfljlclajnabDoor

namespace Wb
open Go Go.RowKit
theorem Own.setCells {α : Type} {f : α → List Value} {base : Nat} {e : TypeId} {c : Nat} {v : Value} {l : List α} : ∀ (ps : List (Addr × Value)) (w : World), Own f base e c w v l → (∀ p ∈ ps, p.1.block < base) → Own f base e c (ps.foldl (fun w p => w.setCell p.1 p.2) w) v l
  | [], _, h, _ => h
  | p :: ps, w, h, hp => Own.setCells ps _ (h.setCell (hp p (by simp)) p.2) (fun q hq => hp q (by simp [hq]))
theorem Below.setCells {B : Nat} {w : World} : ∀ (ps : List (Addr × Value)) (w' : World), Below B w w' → (∀ p ∈ ps, B ≤ p.1.block) → Below B w (ps.foldl (fun w p => w.setCell p.1 p.2) w')
  | [], _, h, _ => h
  | p :: ps, w', h, hp => Below.setCells ps _ (h.setCell (hp p (by simp)) p.2) (fun q hq => hp q (by simp [hq]))
end Wb
namespace Go.Proofs.YtjhmfljlclajnabDoor
open Go.RowKit Wb
set_option linter.unusedVariables false
set_option linter.unusedSimpArgs false
set_option maxRecDepth 100000
set_option maxHeartbeats 4000000
theorem elemIntT : Elem Tryd.prog 25 3 1 8 := Elem.mk' (z := .int .i64 0) Tryd.underlying25 (by kernel_rfl) rfl

theorem ref_CopyTxn (t : Txn) (v : Value) (w : World) (h : RTxn w v t) :
    Calls Tryd.prog 7 #[v] w fun e w' => ∃ v', e = .returned v' ∧ OTxn w.heap.size 74 3 w' v' t ∧ Below w.heap.size w w' := by
  obtain ⟨vm, vd, vr, rfl, hm, hd, hr, n1, n2, n3⟩ := h
  obtain ⟨am, cm, rfl, _⟩ := hm.form
  obtain ⟨ad, cd, rfl, _⟩ := hd.form
  obtain ⟨ar, cr, rfl, _⟩ := hr.form
  obtain ⟨seq, mt, dt, rev, ⟨on0, l0⟩, ⟨on1, l1⟩, ⟨on2, l2⟩⟩ := t
  unfold txnV OTxn
  dsimp only at *
  replace hm := hid hm; replace hd := hid hd; replace hr := hid hr
  go_enter Tryd.func7, Tryd.ntmps7
  go_wp2
  go_region_law (first
    | (refine step_app rfl _ _ 24 rfl _ _ 2 24 cpyC_flat elemCpy (Own.nil _ _ _ _ _) rfl mt (hm.out.below (bal (bal (b0 w) _) _).drew) rfl (by simp; omega) (by simp; unfold maxLen; omega) (Nat.le_refl _) ?_; intro v1 w1 hown1 hb1 _; obtain ⟨a1, cap1, rfl⟩ := hown1.form; have k0 : Blk w1 w.heap.size #[.int .i64 seq, .slice am mt.length cm, .slice ad dt.length cd, .slice ar rev.length cr, .bool on0, .int .i64 l0, .bool on1, .int .i64 l1, .bool on2, .int .i64 l2] 30 := (((Blk.new w _ _).alloc _).drew).step hb1; have k1 : Blk w1 (w.heap.size + 1) #[.int .i64 0, .slice none 0 0, .slice none 0 0, .slice none 0 0, .bool false, .int .i64 0, .bool false, .int .i64 0, .bool false, .int .i64 0] 30 := ((Blk.newAt (w := w.alloc _) (by simp)).drew).step hb1; have nx := bgo (bal (bal (b0 w) _) _).drew hb1; have c1 := k0.cell 1; have c2 := k0.cell 2; have c3 := k0.cell 3; simp only [List.getElem?_toArray, List.getElem?_cons_zero, List.getElem?_cons_succ] at c1 c2 c3; simp only [List.nil_append] at hown1)
    | (refine step_app rfl _ _ 24 rfl _ _ 2 24 cpyC_flat elemCpy (Own.nil _ _ _ _ _) rfl dt (hd.out.below nx) rfl (by simp; omega) (by simp; unfold maxLen; omega) (Nat.le_refl _) ?_; intro v2 w2 hown2 hb2 _; obtain ⟨a2, cap2, rfl⟩ := hown2.form; replace k0 := k0.step hb2; replace k1 := k1.step hb2; have nx := bgo nx hb2; replace hown1 := hown1.below hb2; clear c1 c2 c3; have c1 := k0.cell 1; have c2 := k0.cell 2; have c3 := k0.cell 3; simp only [List.getElem?_toArray, List.getElem?_cons_zero, List.getElem?_cons_succ] at c1 c2 c3; simp only [List.nil_append] at hown2)
    | (refine step_app rfl _ _ 25 rfl _ _ 1 8 intC_flat elemIntT (Own.nil _ _ _ _ _) rfl rev (hr.out.below nx) rfl (by simp; omega) (by simp; unfold maxLen; omega) (Nat.le_refl _) ?_; intro v3 w3 hown3 hb3 _; obtain ⟨a3, cap3, rfl⟩ := hown3.form; replace k0 := k0.step hb3; replace k1 := k1.step hb3; have nx := bgo nx hb3; replace hown1 := hown1.below hb3; replace hown2 := hown2.below hb3; clear c1 c2 c3; have c1 := k0.cell 1; have c2 := k0.cell 2; have c3 := k0.cell 3; have f1 := k0.free 1; have f2 := k0.free 2; have f3 := k0.free 3; simp only [List.getElem?_toArray, List.getElem?_cons_zero, List.getElem?_cons_succ] at c1 c2 c3; simp only [List.nil_append] at hown3))
  all_goals
    have k0' := ((k0.set 1 (.slice a1 mt.length cap1)).set 2 (.slice a2 dt.length cap2)).set 3 (.slice a3 rev.length cap3)
    have k1' := ((k1.set_other ⟨w.heap.size, 1, none⟩ (.slice a1 mt.length cap1) (by simp)).set_other ⟨w.heap.size, 2, none⟩ (.slice a2 dt.length cap2) (by simp)).set_other ⟨w.heap.size, 3, none⟩ (.slice a3 rev.length cap3) (by simp)
    have nx' := ((nx.setCell (p := ⟨w.heap.size, 1, none⟩) (by simp) (.slice a1 mt.length cap1)).setCell (p := ⟨w.heap.size, 2, none⟩) (by simp) (.slice a2 dt.length cap2)).setCell (p := ⟨w.heap.size, 3, none⟩) (by simp) (.slice a3 rev.length cap3)
    have o1 := ((hown1.mono (base' := w.heap.size + 2) (by simp)).setCell (p := ⟨w.heap.size, 1, none⟩) (by simp) (.slice a1 mt.length cap1)).setCell (p := ⟨w.heap.size, 2, none⟩) (by simp) (.slice a2 dt.length cap2) |>.setCell (p := ⟨w.heap.size, 3, none⟩) (by simp) (.slice a3 rev.length cap3)
    have hz1 : w.heap.size + 2 ≤ w1.heap.size := by have := hb1.size; simpa using this
    have hz2 : w.heap.size + 2 ≤ w2.heap.size := Nat.le_trans hz1 hb2.size
    have o2 := ((hown2.mono (base' := w.heap.size + 2) hz1).setCell (p := ⟨w.heap.size, 1, none⟩) (by simp) (.slice a1 mt.length cap1)).setCell (p := ⟨w.heap.size, 2, none⟩) (by simp) (.slice a2 dt.length cap2) |>.setCell (p := ⟨w.heap.size, 3, none⟩) (by simp) (.slice a3 rev.length cap3)
    have o3 := ((hown3.mono (base' := w.heap.size + 2) hz2).setCell (p := ⟨w.heap.size, 1, none⟩) (by simp) (.slice a1 mt.length cap1)).setCell (p := ⟨w.heap.size, 2, none⟩) (by simp) (.slice a2 dt.length cap2) |>.setCell (p := ⟨w.heap.size, 3, none⟩) (by simp) (.slice a3 rev.length cap3)
    clear k0 k1 nx hown1 hown2 hown3 c1 c2 c3 f1 f2 f3 hb1 hb2 hb3
    generalize (((w3.setCell ⟨w.heap.size, 1, none⟩ (.slice a1 mt.length cap1)).setCell ⟨w.heap.size, 2, none⟩ (.slice a2 dt.length cap2)).setCell ⟨w.heap.size, 3, none⟩ (.slice a3 rev.length cap3)) = w4 at *
    replace k0' : Blk w4 w.heap.size #[.int .i64 seq, .slice a1 mt.length cap1, .slice a2 dt.length cap2, .slice a3 rev.length cap3, .bool on0, .int .i64 l0, .bool on1, .int .i64 l1, .bool on2, .int .i64 l2] 30 := k0'
    have c0 := k0'.cell 0; have c1 := k0'.cell 1; have c2 := k0'.cell 2; have c3 := k0'.cell 3; have c4 := k0'.cell 4; have c5 := k0'.cell 5; have c6 := k0'.cell 6; have c7 := k0'.cell 7; have c8 := k0'.cell 8; have c9 := k0'.cell 9
    have d0 := k1'.cell 0; have d1 := k1'.cell 1; have d2 := k1'.cell 2; have d3 := k1'.cell 3; have d4 := k1'.cell 4; have d5 := k1'.cell 5; have d6 := k1'.cell 6; have d7 := k1'.cell 7; have d8 := k1'.cell 8; have d9 := k1'.cell 9
    have z0 := k1'.free 0; have z1 := k1'.free 1; have z2 := k1'.free 2; have z3 := k1'.free 3; have z4 := k1'.free 4; have z5 := k1'.free 5; have z6 := k1'.free 6; have z7 := k1'.free 7; have z8 := k1'.free 8; have z9 := k1'.free 9
    simp only [List.getElem?_toArray, List.getElem?_cons_zero, List.getElem?_cons_succ] at c0 c1 c2 c3 c4 c5 c6 c7 c8 c9 d0 d1 d2 d3 d4 d5 d6 d7 d8 d9
    go_wp2
    have e1 := o1.setCells [(⟨w.heap.size + 1, 0, none⟩, .int .i64 seq), (⟨w.heap.size + 1, 1, none⟩, .slice a1 mt.length cap1), (⟨w.heap.size + 1, 2, none⟩, .slice a2 dt.length cap2), (⟨w.heap.size + 1, 3, none⟩, .slice a3 rev.length cap3), (⟨w.heap.size + 1, 4, none⟩, .bool on0), (⟨w.heap.size + 1, 5, none⟩, .int .i64 l0), (⟨w.heap.size + 1, 6, none⟩, .bool on1), (⟨w.heap.size + 1, 7, none⟩, .int .i64 l1), (⟨w.heap.size + 1, 8, none⟩, .bool on2), (⟨w.heap.size + 1, 9, none⟩, .int .i64 l2)] _ (by simp)
    have e2 := o2.setCells [(⟨w.heap.size + 1, 0, none⟩, .int .i64 seq), (⟨w.heap.size + 1, 1, none⟩, .slice a1 mt.length cap1), (⟨w.heap.size + 1, 2, none⟩, .slice a2 dt.length cap2), (⟨w.heap.size + 1, 3, none⟩, .slice a3 rev.length cap3), (⟨w.heap.size + 1, 4, none⟩, .bool on0), (⟨w.heap.size + 1, 5, none⟩, .int .i64 l0), (⟨w.heap.size + 1, 6, none⟩, .bool on1), (⟨w.heap.size + 1, 7, none⟩, .int .i64 l1), (⟨w.heap.size + 1, 8, none⟩, .bool on2), (⟨w.heap.size + 1, 9, none⟩, .int .i64 l2)] _ (by simp)
    have e3 := o3.setCells [(⟨w.heap.size + 1, 0, none⟩, .int .i64 seq), (⟨w.heap.size + 1, 1, none⟩, .slice a1 mt.length cap1), (⟨w.heap.size + 1, 2, none⟩, .slice a2 dt.length cap2), (⟨w.heap.size + 1, 3, none⟩, .slice a3 rev.length cap3), (⟨w.heap.size + 1, 4, none⟩, .bool on0), (⟨w.heap.size + 1, 5, none⟩, .int .i64 l0), (⟨w.heap.size + 1, 6, none⟩, .bool on1), (⟨w.heap.size + 1, 7, none⟩, .int .i64 l1), (⟨w.heap.size + 1, 8, none⟩, .bool on2), (⟨w.heap.size + 1, 9, none⟩, .int .i64 l2)] _ (by simp)
    have e4 := Wb.Below.setCells [(⟨w.heap.size + 1, 0, none⟩, .int .i64 seq), (⟨w.heap.size + 1, 1, none⟩, .slice a1 mt.length cap1), (⟨w.heap.size + 1, 2, none⟩, .slice a2 dt.length cap2), (⟨w.heap.size + 1, 3, none⟩, .slice a3 rev.length cap3), (⟨w.heap.size + 1, 4, none⟩, .bool on0), (⟨w.heap.size + 1, 5, none⟩, .int .i64 l0), (⟨w.heap.size + 1, 6, none⟩, .bool on1), (⟨w.heap.size + 1, 7, none⟩, .int .i64 l1), (⟨w.heap.size + 1, 8, none⟩, .bool on2), (⟨w.heap.size + 1, 9, none⟩, .int .i64 l2)] _ nx' (by simp)
    refine bodyPost_ret (v := .agg #[.int .i64 seq, .slice a1 mt.length cap1, .slice a2 dt.length cap2, .slice a3 rev.length cap3, .bool on0, .int .i64 l0, .bool on1, .int .i64 l1, .bool on2, .int .i64 l2]) (by simp [results, Tryd.results7, go_sem, d0, d1, d2, d3, d4, d5, d6, d7, d8, d9]) rfl ⟨_, rfl, ⟨_, _, _, rfl, e1.mono (by omega), e2.mono (by omega), e3.mono (by omega), n1, n2, n3⟩, e4⟩
end Go.Proofs.YtjhmfljlclajnabDoor

namespace Wb
open Go Go.RowKit
/-- The place of the first element of key b, or -1. -/
def idxK {α : Type} (key : α → Int) (l : List α) (b : Int) : Int := match l.findIdx? (fun x => key x == b) with
  | some k => (k : Int)
  | none => -1
section
variable {α : Type} {key : α → Int} {l : List α} {b : Int}
theorem idxK_hit {k : Nat} (hk : k < l.length) (h1 : key l[k] = b) (h2 : ∀ i (hi : i < k), ¬ key l[i] = b) : idxK key l b = k := by
  have : l.findIdx? (fun x => key x == b) = some k := List.findIdx?_eq_some_iff_getElem.2 ⟨hk, by simpa using h1, fun j hj => by simpa using h2 j hj⟩
  unfold idxK; rw [this]
theorem idxK_none (h2 : ∀ i (hi : i < l.length), ¬ key l[i] = b) : idxK key l b = -1 := by
  have : l.findIdx? (fun x => key x == b) = none := List.findIdx?_eq_none_iff.2 (fun x hx => by
    obtain ⟨i, hi, rfl⟩ := List.getElem_of_mem hx
    simpa using h2 i hi)
  unfold idxK; rw [this]
theorem idxK_spec (key : α → Int) (l : List α) (b : Int) : (idxK key l b = -1 ∧ ∀ i (hi : i < l.length), ¬ key l[i] = b) ∨ ∃ k : Nat, idxK key l b = k ∧ ∃ hk : k < l.length, key l[k] = b ∧ ∀ i (hi : i < k), ¬ key l[i] = b := by
  cases e : l.findIdx? (fun x => key x == b) with
  | none =>
    refine .inl ⟨by unfold idxK; rw [e], fun i hi hb => ?_⟩
    have := List.findIdx?_eq_none_iff.1 e _ (List.getElem_mem hi)
    simp [hb] at this
  | some k =>
    obtain ⟨hk, h1, h2⟩ := List.findIdx?_eq_some_iff_getElem.1 e
    exact .inr ⟨k, by unfold idxK; rw [e], hk, by simpa using h1, fun i hi => by simpa using h2 i hi⟩
end
end Wb
namespace Go.Proofs.YtjhmfljlclajnabDoor
open Go.RowKit Wb
set_option linter.unusedVariables false
set_option linter.unusedSimpArgs false
set_option maxRecDepth 100000
set_option maxHeartbeats 8000000
theorem slices_IndexI (l : List Int) (b : Int) (v : Value) (w : World) (h : RL intC w v l) (hl : l.length ≤ 17592186044160) :
    Calls Tryd.prog 75 #[v, .int .i64 b] w fun e w' => ∃ r : Int, e = .returned (.int .i64 r) ∧ (inI l b = decide (0 ≤ r)) ∧ w = w' := by
  obtain ⟨a, cap, rfl, _⟩ := h.form
  have hst := fun k (hk : k < l.length) => inI_step (l := l) (b := b) hk
  have hft := fun k (hk : ¬ k < l.length) => inI_full (l := l) (b := b) hk
  have hht := fun k (hk : k < l.length) (hb : l[k] = b) => inI_hit hk hb
  replace h := hid h; replace hst := hid hst; replace hft := hid hft; replace hht := hid hht
  go_enter Tryd.func75, Tryd.ntmps75
  go_wp2
  go_loop [8] (fun i => ∃ k : Nat, k ≤ l.length ∧ i = .int .i64 k ∧ Hid (inI (l.take k) b = false)) (fun i => l.length - (intOf i).toNat)
  case atStart => exact ⟨0, Nat.zero_le _, rfl, hid (by simp [inI])⟩
  case round =>
    obtain ⟨k, hk, rfl, hno⟩ := hrel
    by_cases hlt : k < l.length
    · obtain ⟨b1, o1, rfl, c0⟩ := RL.at1 (fun x => .int .i64 x) (fun _ => rfl) h.out hlt
      by_cases hb : l[k] = b
      · have hv := hid (hht.out k hlt hb)
        have e1 : (l[k] == b) = true := beq_iff_eq.2 hb
        have e2 : (b == l[k]) = true := beq_iff_eq.2 hb.symm
        clear hb
        generalize l[k] = x at *
        go_wp2
        go_ret
        exact ⟨_, rfl, by rw [hv.out]; exact (decide_eq_true (by omega)).symm, rfl⟩
      · have hs := hst.out k hlt
        have e1 : (l[k] == b) = false := beq_eq_false_iff_ne.2 hb
        have e2 : (b == l[k]) = false := beq_eq_false_iff_ne.2 (fun x => hb x.symm)
        rw [e1, hno.out] at hs
        replace hs := hid hs
        clear hb
        generalize l[k] = x at *
        go_wp2
        go_round
        case rel => exact ⟨k + 1, by omega, by go_num, hs⟩
        case measure => simp [intOf]; omega
    · have hv := hid (hft.out k hlt)
      obtain rfl : k = l.length := by omega
      rw [hno.out] at hv
      clear hno
      go_wp2
      go_ret
      exact ⟨_, rfl, by rw [← hv.out]; rfl, rfl⟩
theorem slices_ContainsI (l : List Int) (b : Int) (v : Value) (w : World) (h : RL intC w v l) (hl : l.length ≤ 17592186044160) :
    Calls Tryd.prog 50 #[v, .int .i64 b] w fun e w' => e = .returned (.bool (inI l b)) ∧ w = w' := by
  have hI := hid (slices_IndexI l b v w h hl)
  obtain ⟨a, cap, rfl, _⟩ := h.form
  clear h
  go_enter Tryd.func50, Tryd.ntmps50
  go_wp2_with (go_at_call 75; go_loud ((with_reducible refine hI.out.mono ?_); rintro e w1 ⟨r, rfl, hr, rfl⟩; replace hr := hid hr))
  go_ret
  exact ⟨ret_b hr.out.symm, rfl⟩
end Go.Proofs.YtjhmfljlclajnabDoor

namespace Wb
open Go Go.RowKit
set_option linter.unusedVariables false
set_option linter.unusedSimpArgs false
section
variable {P : Program} {w : World} {ops : Array Oper} {rest : List Oper} {o : Oper} {a : Act} {Q : Exit → Act → World → Prop}
theorem wpList_copyR (hgd : o.guard = none) (d s : Operand) (t t' : TypeId) (ho : o.op = .call { callee := .builtin .copy, args := #[d, s], argTypes := #[t, t'] }) {v u v' : Value} {w' : World}
    (hr : (Builtin.copy_ #[t, t'] o.type #[v, u]).run P w = .ok v' w') (hd : a.eval d = v) (hs : a.eval s = u) (h : wpList P ops Q rest (a.put o.dst v') w') : wpList P ops Q (o :: rest) a w := by
  refine wpList_plain hgd fun K hK => ?_
  unfold Oper.wp execOp
  simp only [ho, resolve, invoke, builtin, Sem.run_bind, Sem.run_pure, Result.andThen_ok, List.map_toArray, List.map_cons, List.map_nil, hd, hs, hr]
  exact hK _ _ h
theorem wpList_appR (hgd : o.guard = none) (d s : Operand) (t t' : TypeId) (ho : o.op = .call { callee := .builtin .append, args := #[d, s], argTypes := #[t, t'] }) {v u v' : Value} {w' : World}
    (hr : (Builtin.append_ #[t, t'] o.type #[v, u]).run P w = .ok v' w') (hd : a.eval d = v) (hs : a.eval s = u) (h : wpList P ops Q rest (a.put o.dst v') w') : wpList P ops Q (o :: rest) a w := by
  refine wpList_plain hgd fun K hK => ?_
  unfold Oper.wp execOp
  simp only [ho, resolve, invoke, builtin, Sem.run_bind, Sem.run_pure, Result.andThen_ok, List.map_toArray, List.map_cons, List.map_nil, hd, hs, hr]
  exact hK _ _ h
theorem wpList_clearR (hgd : o.guard = none) (s : Operand) (t : TypeId) (ho : o.op = .call { callee := .builtin .clear, args := #[s], argTypes := #[t] }) (u : Value) (hs : a.eval s = u) {v' : Value} {w' : World}
    (hr : (Builtin.clear_ #[t] o.type #[u]).run P w = .ok v' w') (h : wpList P ops Q rest (a.put o.dst v') w') : wpList P ops Q (o :: rest) a w := by
  refine wpList_plain hgd fun K hK => ?_
  unfold Oper.wp execOp
  simp only [ho, resolve, invoke, builtin, Sem.run_bind, Sem.run_pure, Result.andThen_ok, List.map_toArray, List.map_cons, List.map_nil, hs, hr]
  exact hK _ _ h
theorem step_copyR {K : Act → World → Prop} {E : Prop} (hg : o.guard = none) (d s : Operand) (t t' : TypeId) (ho : o.op = .call { callee := .builtin .copy, args := #[d, s], argTypes := #[t, t'] }) {v u v' : Value} {w' : World}
    (hr : (Builtin.copy_ #[t, t'] o.type #[v, u]).run P w = .ok v' w') (hd : a.eval d = v) (hs : a.eval s = u) (hK : K (a.put o.dst v') w') : if Region.wanted o (yielded ops a.tmps) = true then Oper.wp P o a w K Q else E := by
  have hw : Region.wanted o (yielded ops a.tmps) = true := by simp [Region.wanted, hg]
  rw [if_pos hw]
  unfold Oper.wp execOp
  simp only [ho, resolve, invoke, builtin, Sem.run_bind, Sem.run_pure, Result.andThen_ok, List.map_toArray, List.map_cons, List.map_nil, hd, hs, hr]
  exact hK
theorem run_copy_blk {dT elem : TypeId} {c bytes : Nat} (hT : Elem P dT elem c bytes) (w : World) (sT ty : TypeId) {g : Nat} {cur : Array Value} (hk : Blk w g cur elem) (off dLen dCap : Nat) (b soff sLen sCap : Nat) (cs : List Value)
    (hn : cs.length = Nat.min sLen dLen * c) (hsrc : ∀ j v, cs[j]? = some v → w.cell? ⟨b, soff + j, none⟩ = some v) (hfit : off + cs.length ≤ cur.size) (h1 : ∀ v ∈ cs, v.oneCell' = true) :
    (Builtin.copy_ #[dT, sT] ty #[.slice (some ⟨g, off, none⟩) dLen dCap, .slice (some ⟨b, soff, none⟩) sLen sCap]).run P w = .ok (goInt (Nat.min sLen dLen : Nat)) (w.setCells g off cs) := by
  obtain ⟨hu, i, z, hi, hz, hsz, hby, hzs⟩ := hT
  exact run_copy_c w dT sT ty elem c g off dLen dCap ⟨b, soff, none⟩ sLen sCap cs hu (by rw [hi]; simp [hsz]) hn (fun j v hj => by rw [Addr.add_lit]; exact hsrc j v hj) (fun j hj => by rw [hk.cell, Array.getElem?_eq_getElem (by omega)]; rfl) (fun j hj => hk.free _) h1
end
section
variable {α : Type} {f : α → List Value} {base : Nat} {e : TypeId} {c : Nat} {l : List α}
theorem flat_one (hF : Flat f c) (l : List α) : ∀ u ∈ l.flatMap f, u.oneCell' = true := fun u hu => by obtain ⟨x, _, hx⟩ := List.mem_flatMap.1 hu; exact hF.one x u hx
theorem insLen {i : Nat} (x : α) (hi : i ≤ l.length) : (l.take i ++ x :: l.drop i).length = l.length + 1 := by
  rw [List.length_append, List.length_take, List.length_cons, List.length_drop]; omega
theorem ins_shift (hF : Flat f c) {g cap i : Nat} {cur : Array Value} (hbg : base ≤ g) (hmax : cap ≤ maxLen) (hsz : cur.size = cap * c) (htk : cur.toList.take (l.length * c) = l.flatMap f) (hi : i ≤ l.length) (hc : l.length + 1 ≤ cap) (x : α) {w0 : World} (hk : Blk w0 g cur e) :
    ∃ cur1 : Array Value, cur1.size = cap * c ∧ Blk (w0.setCells g ((i + 1) * c) ((l.drop i).flatMap f)) g cur1 e ∧ ∀ w1, Blk w1 g cur1 e → Own f base e c (w1.setCells g (i * c) (f x)) (.slice (some ⟨g, 0, none⟩) (l.length + 1) cap) (l.take i ++ x :: l.drop i) := by
  have hd := flat_dropLen hF.len l i
  have hm := mul_split (c := c) hi
  have hm2 : (l.length + 1) * c ≤ cap * c := Nat.mul_le_mul_right _ hc
  rw [Nat.succ_mul] at hm2
  have b1 := Blk.sets ((l.drop i).flatMap f) ((i + 1) * c) w0 cur hk (by rw [hd, hsz, Nat.succ_mul]; omega)
  have hs1 : (cur.toList.take ((i + 1) * c) ++ (l.drop i).flatMap f ++ cur.toList.drop ((i + 1) * c + ((l.drop i).flatMap f).length)).length = cap * c := by
    simp only [List.length_append, List.length_take, List.length_drop, Array.length_toList, hsz, hd, Nat.succ_mul]
    omega
  refine ⟨_, by simpa using hs1, b1, fun w1 k1 => ?_⟩
  have b2 := Blk.sets (f x) (i * c) w1 _ k1 (by rw [hF.len, List.size_toArray, hs1]; omega)
  obtain ⟨h1, h2⟩ := ins_room hF.len cur.toList l i cap x (by rw [Array.length_toList]; exact hsz) htk hi hc rfl rfl
  have := Own.ofRow (l := l.take i ++ x :: l.drop i) (base := base) hF hbg b2 (by rw [insLen x hi]; exact hc) hmax (by rw [List.size_toArray]; exact h1) (by rw [insLen x hi]; exact h2)
  rw [insLen x hi] at this
  exact this
theorem ins_grown (hF : Flat f c) {g cap i : Nat} {cur : Array Value} (Z : List Value) (hbg : base ≤ g) (hmax : cap ≤ maxLen) (hZ : Z.length = (cap - i) * c) (hcur : cur = ((l.take i).flatMap f ++ Z).toArray) (hi : i ≤ l.length) (hc : l.length + 1 ≤ cap) (x : α) {w0 : World} (hk : Blk w0 g cur e) :
    cur.size = cap * c ∧ ∃ cur1 : Array Value, cur1.size = cap * c ∧ Blk (w0.setCells g (i * c) (f x)) g cur1 e ∧ ∀ w1, Blk w1 g cur1 e → Own f base e c (w1.setCells g ((i + 1) * c) ((l.drop i).flatMap f)) (.slice (some ⟨g, 0, none⟩) (l.length + 1) cap) (l.take i ++ x :: l.drop i) := by
  have hd := flat_dropLen hF.len l i
  have hm := mul_split (c := c) hi
  have hm2 : (l.length + 1) * c ≤ cap * c := Nat.mul_le_mul_right _ hc
  have hm3 := mul_split (c := c) (n := cap) (i := i) (by omega)
  have h4 := flat_len hF.len (l.take i)
  rw [List.length_take, Nat.min_eq_left hi] at h4
  rw [Nat.succ_mul] at hm2
  have hs0 : cur.size = cap * c := by rw [hcur, List.size_toArray, List.length_append, h4, hZ]; exact hm3
  refine ⟨hs0, ?_⟩
  have b1 := Blk.sets (f x) (i * c) w0 cur hk (by rw [hF.len, hs0]; omega)
  have hs1 : (cur.toList.take (i * c) ++ f x ++ cur.toList.drop (i * c + (f x).length)).length = cap * c := by
    simp only [List.length_append, List.length_take, List.length_drop, Array.length_toList, hs0, hF.len]
    omega
  refine ⟨_, by simpa using hs1, b1, fun w1 k1 => ?_⟩
  have b2 := Blk.sets ((l.drop i).flatMap f) ((i + 1) * c) w1 _ k1 (by rw [hd, List.size_toArray, hs1, Nat.succ_mul]; omega)
  obtain ⟨h1, h2⟩ := ins_grow hF.len Z l i cap x hZ hi hc (L := cur.toList) (by rw [hcur]) rfl rfl
  have := Own.ofRow (l := l.take i ++ x :: l.drop i) (base := base) hF hbg b2 (by rw [insLen x hi]; exact hc) hmax (by rw [List.size_toArray]; exact h1) (by rw [insLen x hi]; exact h2)
  rw [insLen x hi] at this
  exact this
/-- append(s[:i], make(.., m)...), no room: a new row. -/
theorem run_app_make {P : Program} {t tn : TypeId} {bytes : Nat} (hF : Flat f c) (hT : Elem P t e c bytes) (htn : P.underlying tn = some (.int .i64)) (w : World) {g cap i m : Nat} {cur : Array Value} (hk : Blk w g cur e) (htk : cur.toList.take (l.length * c) = l.flatMap f) (hi : i ≤ l.length) (hm : 0 < m) (hg : cap < i + m)
    (hroom : (i + m) * bytes ≤ 140737488355328) (h63 : i + m ≤ maxLen) :
    ∃ Z : List Value, Z.length = (grownCap w (i + m) cap e - i) * c ∧ ∀ ty, (Builtin.append_ #[t, tn] ty #[.slice (some ⟨g, 0, none⟩) i cap, .int .i64 m]).run P w =
      .ok (.slice (some ⟨w.heap.size, 0, none⟩) (i + m) (grownCap w (i + m) cap e)) (w.drew.alloc (.cells ((l.take i).flatMap f ++ Z).toArray e)) := by
  obtain ⟨hu, io, z, hio, hz, hsz, hby, hzs⟩ := hT
  have hold : (Builtin.firstCells io.size i (.slice (some ⟨g, 0, none⟩) i cap)).run P w.drew = .ok ((l.take i).flatMap f).toArray w.drew := by
    have h4 := flat_len hF.len (l.take i)
    rw [List.length_take, Nat.min_eq_left hi] at h4
    refine run_firstCells_some w.drew io.size i ⟨g, 0, none⟩ i cap _ (by rw [h4, hsz]) (fun j u hj => ?_)
    have hlt : j < ((l.take i).flatMap f).length := (List.getElem?_eq_some_iff.1 hj).1
    rw [Addr.add_lit, Nat.zero_add]
    have h5 : (l.flatMap f)[j]? = some u := by
      conv => lhs; rw [← List.take_append_drop i l]
      rw [List.flatMap_append, List.getElem?_append_left hlt]
      exact hj
    rw [← htk, List.getElem?_take] at h5
    split at h5
    · show w.cell? _ = _
      rw [hk.cell, ← h5]
      simp
    · cases h5
  have hby' : m * bytes ≤ (i + m) * bytes := Nat.mul_le_mul_right _ (by omega)
  have hr := fun ty => Lib.run_append_grow_zeros w t tn ty e io z .i64 .i64 hu htn hio hz (some ⟨g, 0, none⟩) i cap _ hold m hm (by rw [hsz]; exact hF.pos) hg (by unfold maxLen at h63; omega) (by rw [hby]; omega) (by rw [hby]; exact growslice_fits hg hroom)
  have hge := grownCap_ge w (i + m) cap e
  refine ⟨(Builtin.zeroCells z.cells m).toList ++ (Builtin.zeroCells z.cells (grownCap w (i + m) cap e - (i + m))).toList, ?_, ?_⟩
  · rw [List.length_append, Array.length_toList, Array.length_toList, size_zeroCells, size_zeroCells, hzs, ← Nat.add_mul]
    congr 1
    omega
  · intro ty
    rw [hr]
    congr 3
    apply Array.ext'
    simp [List.append_assoc]
end
end Wb

namespace Go.Proofs.YtjhmfljlclajnabDoor
open Go.RowKit Wb
set_option linter.unusedVariables false
set_option linter.unusedSimpArgs false
set_option maxRecDepth 100000
set_option maxHeartbeats 8000000
end Go.Proofs.YtjhmfljlclajnabDoor

namespace Wb
open Go Go.RowKit
/-- Going backward: what the last one says. -/
theorem back_rev {l : List Txn} (hg : ∀ t ∈ l, goodT t = true) {j : Nat} (hj : j < l.length) {b : Int} (h : inI l[j].rev b = true) : newestB (l.take (j + 1)) b = none := by
  rw [List.take_succ_eq_append_getElem hj, newestB_back]
  have g := hg _ (List.getElem_mem hj)
  have h1 : getC l[j].mt b = none := by
    cases hc : getC l[j].mt b with
    | none => rfl
    | some s =>
      exfalso
      have h2 : hasB l[j].mt b = true := by rw [hasB_get, hc]; rfl
      obtain ⟨c, hc1, hc2⟩ := List.any_eq_true.1 h2
      obtain ⟨k, hk, rfl⟩ := List.mem_iff_getElem.1 hc1
      have := (good_meta g hk).1
      rw [beq_iff_eq.1 hc2, h] at this
      cases this
  rw [h1, h]
  rfl
theorem back_get {l : List Txn} {j : Nat} (hj : j < l.length) {b : Int} {s : ByteArray} (h : getC l[j].mt b = some s) : newestB (l.take (j + 1)) b = some s := by
  rw [List.take_succ_eq_append_getElem hj, newestB_back, h]
theorem back_no {l : List Txn} {j : Nat} (hj : j < l.length) {b : Int} (h1 : inI l[j].rev b = false) (h : getC l[j].mt b = none) : newestB (l.take (j + 1)) b = newestB (l.take j) b := by
  rw [List.take_succ_eq_append_getElem hj, newestB_back, h, h1]
  rfl
theorem viewN_none {f : Int → Option ByteArray} {n : Nat} (h : f n = none) : viewN f (n + 1) = viewN f n := by rw [viewN_succ, h]; simp
theorem viewN_some {f : Int → Option ByteArray} {n : Nat} {s : ByteArray} (h : f n = some s) : viewN f (n + 1) = viewN f n ++ [⟨n, s⟩] := by rw [viewN_succ, h]; rfl
/-- As a row of the call's own. -/
theorem OwnM.own {α : Type} {f : α → List Value} {e : TypeId} {c : Nat} {v : Value} {l : List α} {M L T : List Ent} {w0 w : World} {R : List Rd} (hF : Flat f c) (h : OwnM f e c v l M) (X : St [] w0 w (L ++ (M ++ T)) R) : Own f w0.heap.size e c w v l := by
  rcases h with ⟨rfl, rfl, rfl⟩ | ⟨g, cap, rest, rfl, h1, h2, h3, rfl⟩
  · exact Own.nil _ _ _ _ _
  · have hk := X.blk ⟨g, l.flatMap f ++ rest, e⟩ (by simp)
    have ho := X.own ⟨g, l.flatMap f ++ rest, e⟩ (by simp)
    refine ⟨flat_len hF.len l, .inr ⟨g, cap, _, rfl, ho.resolve_left (fun h => by cases h), hk, h1, h2, ?_, ?_⟩⟩
    · simpa using h3
    · rw [← flat_len hF.len l]; simp
end Wb
namespace Go.Proofs.YtjhmfljlclajnabDoor
open Go.RowKit Wb
set_option linter.unusedVariables false
set_option linter.unusedSimpArgs false
set_option maxRecDepth 100000
set_option maxHeartbeats 8000000
theorem seal_Newest (l : List Txn) (hg : ∀ t ∈ l, goodT t = true) (v : Value) (w : World) (h : RTxns w v l) :
    Calls Tryd.prog 16 #[v] w fun e w' => ∃ v', e = .returned v' ∧ Wb.Own cpyC w.heap.size 74 2 w' v' (newestL l) ∧ Below w.heap.size w w' := by
  obtain ⟨a, cap, rfl, hl⟩ := h.form
  have hbr := fun j (hj : j < l.length) b => back_rev hg hj (b := b)
  have hbg := fun j (hj : j < l.length) b s => back_get (l := l) hj (b := b) (s := s)
  have hbn := fun j (hj : j < l.length) b => back_no (l := l) hj (b := b)
  have hvn := fun k => viewN_none (f := newestB l) (n := k)
  have hvs := fun k s => viewN_some (f := newestB l) (n := k) (s := s)
  have hvl := fun k => viewN_len (newestB l) k
  have hz : ∀ b, newestB (l.take 0) b = none := fun b => rfl
  have hfu : l.take l.length = l := List.take_length
  have hrl := fun k (hk : k < l.length) => lens (goodT_of.1 (hg _ (List.getElem_mem hk)))
  have hnl : newestL l = viewN (newestB l) 12 := rfl
  have hv0 : viewN (newestB l) 0 = [] := rfl
  rw [hnl]
  replace h := hid h; replace hbr := hid hbr; replace hbg := hid hbg; replace hbn := hid hbn; replace hvn := hid hvn; replace hvs := hid hvs; replace hvl := hid hvl; replace hz := hid hz; replace hfu := hid hfu; replace hrl := hid hrl; replace hv0 := hid hv0
  clear hnl hg
  go_enter Tryd.func16, Tryd.ntmps16
  go_wp2
  go_loopw [3, 8] (fun o i wr => ∃ (k : Nat) (M : List Ent), k ≤ 12 ∧ i = .int .i64 k ∧ OwnM cpyC 74 2 o (viewN (newestB l) k) M ∧ St [] w wr (M ++ []) []) (fun _ i _ => 12 - (intOf i).toNat)
  case atStart => exact ⟨0, [], by decide, rfl, by rw [hv0.out]; exact OwnM.nil _ _ _, St.start [] w⟩
  case round =>
    obtain ⟨k, M, hk, rfl, hO, X⟩ := hrel
    by_cases hlt : k < 12
    · have hvk := hvl.out k
      have hk12 : (k : Int) < 12 := by omega
      obtain ⟨ao, co, rfl⟩ := hO.form
      go_upto_block 1 with fail
      go_cut [3] (fun o wx => ∃ M, OwnM cpyC 74 2 o (viewN (newestB l) (k + 1)) M ∧ St [] w wx (M ++ []) [])
      case first =>
        go_wp2
        go_loopw [3, 5] (fun o i wr => ∃ j : Nat, j ≤ l.length ∧ i = .int .i64 ((j : Int) - 1) ∧ o = .slice ao (viewN (newestB l) k).length co ∧ Hid (newestB l k = newestB (l.take j) k) ∧ St [] w wr (M ++ []) []) (fun _ i _ => (intOf i + 1).toNat)
        case atStart => exact ⟨l.length, Nat.le_refl _, rfl, rfl, hid (by rw [hfu.out]), X⟩
        case round =>
          clear X
          obtain ⟨j, hj, rfl, rfl, hnw, X⟩ := hrel
          rcases Nat.eq_zero_or_pos j with hj0 | hj0
          · subst hj0
            have hn := hnw.out.trans (hz.out k)
            replace hn := hid hn
            go_wp2
            go_meet
            exact ⟨M, by rw [hvn.out _ hn.out]; exact hO, X⟩
          · obtain ⟨i, rfl⟩ : ∃ i, j = i + 1 := ⟨j - 1, by omega⟩
            have hi : i < l.length := by omega
            obtain ⟨b1, o1, am, cm, ad, cd, ar, cr, rfl, hrt, c0, c1, c2, c3, c4, c5, c6, c7, c8, c9⟩ := (h.out.below X.below).at3 hi
            obtain ⟨vm', vd', vr', hv, hm, hd, hr, n1, n2, n3⟩ := hrt
            simp only [txnV, Value.agg.injEq, Array.mk.injEq, List.cons.injEq, and_true, true_and] at hv
            obtain ⟨rfl, rfl, rfl⟩ := hv
            have hb1 := hbr.out i hi k
            have hb2 := hbg.out i hi k
            have hb3 := hbn.out i hi k
            rw [← hnw.out] at hb1 hb2 hb3
            generalize l[i] = t at *
            have hC := fun w' (hb : Below wr.heap.size wr w') => slices_ContainsI t.rev k _ w' (hr.below hb) (by omega)
            have hG := fun w' (hb : Below wr.heap.size wr w') => txn_Get t.mt k _ w' (hm.below hb) (by omega)
            replace hb1 := hid hb1; replace hb2 := hid hb2; replace hb3 := hid hb3; replace hm := hid hm; replace hr := hid hr; replace hC := hid hC; replace hG := hid hG
            cases hB : inI t.rev k with
            | true =>
              have hn := hb1.out hB
              rw [hB] at hC
              clear hB
              replace hn := hid hn
              go_wp2_with (first
                | (go_at_call 50; go_loud ((with_reducible refine (hC.out _ (b0 _)).mono ?_); rintro e w1 ⟨rfl, rfl⟩)))
              go_meet
              exact ⟨M, by rw [hvn.out _ hn.out]; exact hO, X⟩
            | false =>
              have hb3 := hb3.out hB
              rw [hB] at hC
              clear hB
              cases hT : getC t.mt k with
              | none =>
                have hn := hb3 hT
                rw [hT] at hG
                clear hT hb3
                replace hn := hid hn
                go_wp2_with (first
                  | (go_at_call 50; go_loud ((with_reducible refine (hC.out _ (b0 _)).mono ?_); rintro e w1 ⟨rfl, rfl⟩))
                  | (go_at_call 15; go_loud ((with_reducible refine (hG.out _ (b0 _)).mono ?_); rintro e w1 ⟨rfl, hb1⟩; replace X := X.call hb1; clear hb1)))
                go_roundw
                case rel => (first | exact ⟨i, by omega, by go_num, rfl, hn, X⟩ | ((repeat apply Exists.intro); exact ⟨⟨i, by omega, by go_num, rfl, hn, X⟩, rfl⟩))
                case measure => simp [intOf]
              | some s =>
                have hn := hb2.out s hT
                rw [hT] at hG
                clear hT hb3
                replace hn := hid hn
                have hy : [(⟨k, s⟩ : Cpy)].flatMap cpyC = [.int .i64 k, .string s] := rfl
                go_wp2_with (first
                  | (go_at_call 50; go_loud ((with_reducible refine (hC.out _ (b0 _)).mono ?_); rintro e w1 ⟨rfl, rfl⟩))
                  | (go_at_call 15; go_loud ((with_reducible refine (hG.out _ (b0 _)).mono ?_); rintro e w1 ⟨rfl, hb1⟩; replace X := X.call hb1; clear hb1))
                  | (refine at_build rfl ?_; go_loud (refine m_build1 rfl rfl (by first | exact EvR.const _ | exact EvR.tmp rfl rfl) (by rfl) (by rfl) X ?_; intro g w2 X2; replace X := X2; clear X2; (simp only [Act.put, List.setIfInBounds_toArray, List.set_cons_succ, List.set_cons_zero, List.drop_succ_cons, List.drop_zero, List.take_succ_cons, List.take_zero, Nat.reduceAdd])))
                  | (at_builtin; go_loud ((refine m_app (M := M) (T := []) (n := 1) [] rfl rfl [⟨k, s⟩] cpyC_flat X hO (by first | exact EvR.const _ | exact EvR.tmp rfl rfl) (by first | exact EvR.const _ | exact EvR.tmp rfl rfl) hy rfl (by omega) ?_); intro a2 c2 w2 M2 hO2 X2; (simp only [Act.put, List.setIfInBounds_toArray, List.set_cons_succ, List.set_cons_zero, List.drop_succ_cons, List.drop_zero, List.take_succ_cons, List.take_zero, Nat.reduceAdd]))))
                go_meet
                exact ⟨M2, by rw [hvs.out _ _ hn.out]; exact hO2, X2⟩
      case rest =>
        obtain ⟨M, hO, X⟩ := hcut
        go_wp2
        go_roundw
        case rel => exact ⟨k + 1, M, by omega, by go_num, hO, X⟩
        case measure => simp [intOf]; omega
    · obtain rfl : k = 12 := by omega
      go_wp2
      go_ret
      exact ⟨_, rfl, hO.own (L := []) cpyC_flat X, X.below⟩
end Go.Proofs.YtjhmfljlclajnabDoor

namespace Go.Proofs.YtjhmfljlclajnabDoor
open Go.RowKit Wb
set_option linter.unusedVariables false
set_option linter.unusedSimpArgs false
set_option maxRecDepth 100000
set_option maxHeartbeats 1000000

theorem ref_FitText (s : ByteArray) (w : World) (hs : s.size ≤ 9223372036854775807) :
    Calls Tryd.prog 78 #[.string s] w fun e w' => e = .returned (.string (fit s)) ∧ Below w.heap.size w w' := by
  have hfit : fit s = str (fitL s.data.toList) := rfl
  generalize fit s = ft at *
  replace hfit := hid hfit
  go_enter Tryd.func78, Tryd.ntmps78
  go_wp2
  have hlen : s.data.toList.length = s.size := by rw [Array.length_toList]; rfl
  replace hlen := hid hlen
  go_loopw [4] (fun i wr => ∃ k : Nat, k ≤ s.size ∧ k ≤ 32 ∧ i = .int .i64 k ∧ Blk wr w.heap.size ((fitPart s.data.toList k).flatMap byteC).toArray 139 ∧ Below w.heap.size w wr) (fun i _ => 32 - (intOf i).toNat)
  case atStart => exact ⟨0, Nat.zero_le _, Nat.zero_le _, rfl, by rw [fitPart_zero]; exact Blk.new w _ _, by repeat (first | exact Below.refl _ _ | with_reducible assumption | (refine allocB ?_ (by first | omega | (simp; done) | (simp; omega)) _) | (refine Below.setCell ?_ (by first | omega | (simp; done) | (simp; omega)) _) | refine Below.drew ?_ | (refine Below.trans ?_ (Below.mono (by with_reducible assumption) (by first | omega | (simp; done) | (simp; omega)))))⟩
  case round =>
    obtain ⟨k, hk, hk2, rfl, kb, hnx⟩ := hrel
    by_cases hlt : k < s.size ∧ k < 32
    · obtain ⟨hl1, hl2⟩ := hlt
      have hl3 : k < s.data.toList.length := by rw [hlen.out]; exact hl1
      have hget : ∀ j : Nat, (((fitPart s.data.toList k).flatMap byteC).toArray)[j]? = ((fitPart s.data.toList k)[j]?).map fun (b : UInt8) => Value.int .u8 b.toNat := by
        intro j
        rw [flat_bytes]
        simp [Function.comp]
        rfl
      have hc : wr.cell? ⟨w.heap.size, k, none⟩ = some (Value.int .u8 ((fitPart s.data.toList k)[k]'(by rw [fitPart_len (by omega) hk2]; exact hl2)).toNat) := by
        rw [kb.cell k, hget k]
        simp [fitPart_len (s := s.data.toList) (k := k) (by omega) hk2, hl2]
      have hf := kb.free k
      have hset := fitPart_set hl3 hl2
      have lt0 := kb.lt
      generalize ((fitPart s.data.toList k)[k]'(by rw [fitPart_len (by omega) hk2]; exact hl2)).toNat = old at *
      replace hget := hid hget
      replace hset := hid hset
      go_wp2
      go_roundw
      case rel =>
        refine ⟨k + 1, by omega, by omega, by go_num, ?_, hnx.setCell (Nat.le_refl _) _⟩
        have hbb := kb.set k (.int .u8 s[k].toNat)
        have he : (((fitPart s.data.toList k).flatMap byteC).toArray).setIfInBounds k (.int .u8 s[k].toNat) = ((fitPart s.data.toList (k + 1)).flatMap byteC).toArray := by
          rw [← hset.out, flat_bytes, flat_bytes, List.map_map, List.map_map, List.map_set]
          simp [Function.comp]
          rfl
        rw [he] at hbb
        exact hbb
      case measure => simp [intOf]; omega
    · have hr : RL byteC wr (.slice (some ⟨w.heap.size, 0, none⟩) 32 32) (fitL s.data.toList) := by
        rw [← fitPart_full (by rw [hlen.out]; exact hk) hk2 (by rw [hlen.out]; exact hlt)]
        have hl := fitPart_len (s := s.data.toList) (k := k) (by rw [hlen.out]; exact hk) hk2
        refine ⟨_, 32, by rw [hl], by rw [hl]; exact Nat.le_refl _, by unfold maxLen; omega, .inr ⟨w.heap.size, 0, rfl, fun j u hj => ?_⟩⟩
        rw [Nat.zero_add, kb.cell j]
        simpa using hj
      have hcv := run_toString (P := Tryd.prog) (src := 120) (dst := 9) (fitL s.data.toList) Tryd.underlying120 Tryd.underlying5 Tryd.underlying9 hr
      rw [← hfit.out] at hcv
      clear hr
      go_wp2
      all_goals
        go_ret
        exact ⟨rfl, hnx⟩
end Go.Proofs.YtjhmfljlclajnabDoor

namespace Go.Proofs
open Go.Shelf
def Tryd.lays170_ren : Go.Shelf.Ren := ⟨fun | 170 => 96 | n => n, fun | 70 => 143 | 3 => 3 | 0 => 0 | 72 => 145 | 37 => 120 | 5 => 5 | n => n, fun | n => n⟩
theorem Tryd.lays170 : Go.Proofs.Lays.n170 Tryd.prog Tryd.lays170_ren := {
  mixed := by kernel_rfl
  f170 := Tryd.func96.trans (congrArg some (by kernel_rfl))
  t0 := Tryd.underlying0
  a0 := Tryd.isAgg0
  z0 := Tryd.sizeOf0
  v0 := Tryd.zeroValue0
  t3 := Tryd.underlying3
  a3 := Tryd.isAgg3
  z3 := Tryd.sizeOf3
  v3 := Tryd.zeroValue3
  t37 := Tryd.underlying120
  a37 := Tryd.isAgg120
  z37 := Tryd.sizeOf120
  v37 := Tryd.zeroValue120
  t70 := Tryd.underlying143
  a70 := Tryd.isAgg143
  z70 := Tryd.sizeOf143
  v70 := Tryd.zeroValue143
  t72 := Tryd.underlying145
  a72 := Tryd.isAgg145
  z72 := Tryd.sizeOf145
  v72 := Tryd.zeroValue145 }
open Go.RowKit in
/-- (*strings.Builder).Len: "Len returns the number of accumulated bytes; b.Len() == len(b.String()).": the world is as it was. (LAID: no walk: one application.) -/
theorem Tryd.Builder_Len (B b : Nat) (bs : List Value) (w : World) (h : Lib.IsBuilder 145 5 B b bs w) :
    Calls Tryd.prog 96 #[.pointer (some ⟨b, 0, none⟩)] w fun e w' => e = .returned (.int .i64 bs.length) ∧ w' = w := Any.Builder_Len Tryd.lays170 B b bs w h
def Tryd.lays169_ren : Go.Shelf.Ren := ⟨fun | 169 => 97 | n => n, fun | 70 => 143 | 9 => 9 | 0 => 0 | 72 => 145 | 37 => 120 | 127 => 159 | 3 => 3 | 5 => 5 | n => n, fun | n => n⟩
theorem Tryd.lays169 : Go.Proofs.Lays.n169 Tryd.prog Tryd.lays169_ren := {
  mixed := by kernel_rfl
  f169 := Tryd.func97.trans (congrArg some (by kernel_rfl))
  t0 := Tryd.underlying0
  a0 := Tryd.isAgg0
  z0 := Tryd.sizeOf0
  v0 := Tryd.zeroValue0
  t3 := Tryd.underlying3
  a3 := Tryd.isAgg3
  z3 := Tryd.sizeOf3
  v3 := Tryd.zeroValue3
  t9 := Tryd.underlying9
  a9 := Tryd.isAgg9
  z9 := Tryd.sizeOf9
  v9 := Tryd.zeroValue9
  t37 := Tryd.underlying120
  a37 := Tryd.isAgg120
  z37 := Tryd.sizeOf120
  v37 := Tryd.zeroValue120
  t70 := Tryd.underlying143
  a70 := Tryd.isAgg143
  z70 := Tryd.sizeOf143
  v70 := Tryd.zeroValue143
  t72 := Tryd.underlying145
  a72 := Tryd.isAgg145
  z72 := Tryd.sizeOf145
  v72 := Tryd.zeroValue145
  t127 := Tryd.underlying159
  a127 := Tryd.isAgg159
  z127 := Tryd.sizeOf159
  v127 := Tryd.zeroValue159 }
theorem Tryd.Builder_Extra_169 : Builder.Extra Tryd.prog Tryd.lays169_ren := {
  sizeBuilder := by kernel_rfl
  liesBuilder := by kernel_rfl
  t5 := Tryd.underlying5
  a5 := Tryd.isAgg5
  z5 := Tryd.sizeOf5
  v5 := Tryd.zeroValue5
  infoByte := by kernel_rfl
  cellsByte := by kernel_rfl
  sizeByte := by kernel_rfl
  neB5 := by decide }
open Go.RowKit in
/-- (*strings.Builder).String: "String returns the accumulated string.": OF A BUILDER THAT HOLDS AT LEAST ONE BYTE. ✋ THE MODEL FREEZES THOSE BYTES IN THE BUFFER (unsafe.String): a later write INTO them ends the model's run without an answer; a later append BEHIND them goes on. The statement's order of evaluation is drawn: one draw. (LAID: no walk: one application.) -/
theorem Tryd.Builder_String (B b : Nat) (l : List UInt8) (w : World) (h : Lib.IsBuilder 145 5 B b (Lib.byteCells l) w) (h0 : l ≠ []) :
    Calls Tryd.prog 97 #[.pointer (some ⟨b, 0, none⟩)] w fun e w' => e = .returned (.string ⟨l.toArray⟩) ∧ Below B w w' := Any.Builder_String Tryd.lays169 Tryd.Builder_Extra_169 B b l w h h0
open Go.RowKit in
/-- (*strings.Builder).String OF A BUILDER THAT HOLDS NO BYTE: the empty string. (Its buffer is nil, or a row of which it has taken nothing yet; where that row has NO capacity the model lays one new block for unsafe.SliceData's 'some address'.) One draw. (LAID: no walk: one application.) -/
theorem Tryd.Builder_String_empty (B b : Nat) (w : World) (h : Lib.IsBuilder 145 5 B b [] w) (hBw : B ≤ w.heap.size) :
    Calls Tryd.prog 97 #[.pointer (some ⟨b, 0, none⟩)] w fun e w' => e = .returned (.string ⟨#[]⟩) ∧ Below B w w' := Any.Builder_String_empty Tryd.lays169 Tryd.Builder_Extra_169 B b w h hBw
open Go.RowKit in
/-- (*strings.Builder).String: "String returns the accumulated string.": WHATEVER THE BUILDER HOLDS. (LAID: no walk: one application.) -/
theorem Tryd.Builder_String_any (B b : Nat) (l : List UInt8) (w : World) (h : Lib.IsBuilder 145 5 B b (Lib.byteCells l) w) (hBw : B ≤ w.heap.size) :
    Calls Tryd.prog 97 #[.pointer (some ⟨b, 0, none⟩)] w fun e w' => e = .returned (.string ⟨l.toArray⟩) ∧ Below B w w' := Any.Builder_String_any Tryd.lays169 Tryd.Builder_Extra_169 B b l w h hBw
def Tryd.lays241_ren : Go.Shelf.Ren := ⟨fun | 241 => 102 | 277 => 104 | n => n, fun | 70 => 143 | 3 => 3 | 0 => 0 | 72 => 145 | 37 => 120 | 5 => 5 | n => n, fun | n => n⟩
theorem Tryd.lays241 : Go.Proofs.Lays.n241 Tryd.prog Tryd.lays241_ren := {
  mixed := by kernel_rfl
  f241 := Tryd.func102.trans (congrArg some (by kernel_rfl))
  f277 := Tryd.func104.trans (congrArg some (by kernel_rfl))
  t0 := Tryd.underlying0
  a0 := Tryd.isAgg0
  z0 := Tryd.sizeOf0
  v0 := Tryd.zeroValue0
  t3 := Tryd.underlying3
  a3 := Tryd.isAgg3
  z3 := Tryd.sizeOf3
  v3 := Tryd.zeroValue3
  t37 := Tryd.underlying120
  a37 := Tryd.isAgg120
  z37 := Tryd.sizeOf120
  v37 := Tryd.zeroValue120
  t70 := Tryd.underlying143
  a70 := Tryd.isAgg143
  z70 := Tryd.sizeOf143
  v70 := Tryd.zeroValue143
  t72 := Tryd.underlying145
  a72 := Tryd.isAgg145
  z72 := Tryd.sizeOf145
  v72 := Tryd.zeroValue145 }
theorem Tryd.Builder_Extra_241 : Builder.Extra Tryd.prog Tryd.lays241_ren := {
  sizeBuilder := by kernel_rfl
  liesBuilder := by kernel_rfl
  t5 := Tryd.underlying5
  a5 := Tryd.isAgg5
  z5 := Tryd.sizeOf5
  v5 := Tryd.zeroValue5
  infoByte := by kernel_rfl
  cellsByte := by kernel_rfl
  sizeByte := by kernel_rfl
  neB5 := by decide }
open Go.RowKit in
/-- (*strings.Builder).grow (no doc but "grow copies the buffer to a new, larger buffer so that there are at least n bytes of capacity beyond len(b.buf)."): AT A BUILDER WITHOUT A BUFFER: a new row of whatever bytes for its buffer, none of them its own yet. Three draws. (LAID: no walk: one application.) -/
theorem Tryd.Builder_grow_fresh (B b n : Nat) (w : World) (hB : B ≤ b) (hbk : w.heap[b]? = some (.cells #[.pointer (some ⟨b, 0, none⟩), .slice none 0 0] 145 (0, 0))) (hBw : B ≤ w.heap.size) (hn : n ≤ 281474976710656) :
    Calls Tryd.prog 102 #[.pointer (some ⟨b, 0, none⟩), .int .i64 n] w fun e w' => e = .returned (.tuple #[]) ∧ (Lib.BuilderAt 145 5 B b (.pointer (some ⟨b, 0, none⟩)) [] w' ∧ Below B w w') := Any.Builder_grow_fresh Tryd.lays241 Tryd.Builder_Extra_241 B b n w hB hbk hBw hn
def Tryd.lays165_ren : Go.Shelf.Ren := ⟨fun | 165 => 94 | 240 => 101 | 241 => 102 | 276 => 103 | 277 => 104 | n => n, fun | 70 => 143 | 3 => 3 | 0 => 0 | 4 => 4 | 9 => 9 | 20 => 20 | 72 => 145 | 37 => 120 | 164 => 160 | 5 => 5 | n => n, fun | n => n⟩
theorem Tryd.lays165 : Go.Proofs.Lays.n165 Tryd.prog Tryd.lays165_ren := {
  mixed := by kernel_rfl
  f165 := Tryd.func94.trans (congrArg some (by kernel_rfl))
  f240 := Tryd.func101.trans (congrArg some (by kernel_rfl))
  f241 := Tryd.func102.trans (congrArg some (by kernel_rfl))
  f276 := Tryd.func103.trans (congrArg some (by kernel_rfl))
  f277 := Tryd.func104.trans (congrArg some (by kernel_rfl))
  t0 := Tryd.underlying0
  a0 := Tryd.isAgg0
  z0 := Tryd.sizeOf0
  v0 := Tryd.zeroValue0
  t3 := Tryd.underlying3
  a3 := Tryd.isAgg3
  z3 := Tryd.sizeOf3
  v3 := Tryd.zeroValue3
  t4 := Tryd.underlying4
  a4 := Tryd.isAgg4
  z4 := Tryd.sizeOf4
  v4 := Tryd.zeroValue4
  t9 := Tryd.underlying9
  a9 := Tryd.isAgg9
  z9 := Tryd.sizeOf9
  v9 := Tryd.zeroValue9
  t20 := Tryd.underlying20
  a20 := Tryd.isAgg20
  z20 := Tryd.sizeOf20
  v20 := Tryd.zeroValue20
  t37 := Tryd.underlying120
  a37 := Tryd.isAgg120
  z37 := Tryd.sizeOf120
  v37 := Tryd.zeroValue120
  t70 := Tryd.underlying143
  a70 := Tryd.isAgg143
  z70 := Tryd.sizeOf143
  v70 := Tryd.zeroValue143
  t72 := Tryd.underlying145
  a72 := Tryd.isAgg145
  z72 := Tryd.sizeOf145
  v72 := Tryd.zeroValue145
  t164 := Tryd.underlying160
  a164 := Tryd.isAgg160
  z164 := Tryd.sizeOf160
  v164 := Tryd.zeroValue160 }
theorem Tryd.Builder_Extra_165 : Builder.Extra Tryd.prog Tryd.lays165_ren := {
  sizeBuilder := by kernel_rfl
  liesBuilder := by kernel_rfl
  t5 := Tryd.underlying5
  a5 := Tryd.isAgg5
  z5 := Tryd.sizeOf5
  v5 := Tryd.zeroValue5
  infoByte := by kernel_rfl
  cellsByte := by kernel_rfl
  sizeByte := by kernel_rfl
  neB5 := by decide }
open Go.RowKit in
/-- (*strings.Builder).Grow AT A BUILDER THAT HAS NOT BEEN WRITTEN ('var b strings.Builder; b.Grow(n)'): "Grow grows b's capacity, if necessary, to guarantee space for another n bytes.": it holds no byte behind it as before it. (LAID: no walk: one application.) -/
theorem Tryd.Builder_Grow_fresh (B b n : Nat) (w : World) (hB : B ≤ b) (hbk : w.heap[b]? = some (.cells #[.pointer none, .slice none 0 0] 145 (0, 0))) (hBw : B ≤ w.heap.size) (hn : n ≤ 281474976710656) :
    Calls Tryd.prog 94 #[.pointer (some ⟨b, 0, none⟩), .int .i64 n] w fun e w' => e = .returned (.tuple #[]) ∧ (Lib.BuilderAt 145 5 B b (.pointer (some ⟨b, 0, none⟩)) [] w' ∧ Below B w w') := Any.Builder_Grow_fresh Tryd.lays165 Tryd.Builder_Extra_165 B b n w hB hbk hBw hn
open Go.RowKit in
/-- (*strings.Builder).Len: "Len returns the number of accumulated bytes; b.Len() == len(b.String()).": the world is as it was. (THE FORM '_f': 'Lib.IsBuilderF'.) (LAID: no walk: one application.) -/
theorem Tryd.Builder_Len_f (B b : Nat) (bs : List Value) (w : World) (h : Lib.IsBuilderF 145 5 B b bs w) :
    Calls Tryd.prog 96 #[.pointer (some ⟨b, 0, none⟩)] w fun e w' => e = .returned (.int .i64 bs.length) ∧ w' = w := Any.Builder_Len_f Tryd.lays170 B b bs w h
open Go.RowKit in
/-- (*strings.Builder).String: "String returns the accumulated string.": OF A BUILDER THAT HOLDS AT LEAST ONE BYTE. ✋ THE MODEL FREEZES THOSE BYTES IN THE BUFFER (unsafe.String): a later write INTO them ends the model's run without an answer; a later append BEHIND them goes on. The statement's order of evaluation is drawn: one draw. THE FORM '_f': IT SAYS BESIDES THAT THE BUILDER IS A BUILDER STILL ('Lib.IsBuilderF', the same bytes): SO IT CAN BE WRITTEN ON: 'b.WriteString(b.String()[:k])'. (LAID: no walk: one application.) -/
theorem Tryd.Builder_String_f (B b : Nat) (l : List UInt8) (w : World) (h : Lib.IsBuilderF 145 5 B b (Lib.byteCells l) w) (h0 : l ≠ []) :
    Calls Tryd.prog 97 #[.pointer (some ⟨b, 0, none⟩)] w fun e w' => e = .returned (.string ⟨l.toArray⟩) ∧ (Lib.IsBuilderF 145 5 B b (Lib.byteCells l) w' ∧ Below B w w') := Any.Builder_String_f Tryd.lays169 Tryd.Builder_Extra_169 B b l w h h0
open Go.RowKit in
/-- (*strings.Builder).String OF A BUILDER THAT HOLDS NO BYTE: the empty string; THE FORM '_f': a builder still. (LAID: no walk: one application.) -/
theorem Tryd.Builder_String_empty_f (B b : Nat) (w : World) (h : Lib.IsBuilderF 145 5 B b [] w) (hBw : B ≤ w.heap.size) :
    Calls Tryd.prog 97 #[.pointer (some ⟨b, 0, none⟩)] w fun e w' => e = .returned (.string ⟨#[]⟩) ∧ (Lib.IsBuilderF 145 5 B b [] w' ∧ Below B w w') := Any.Builder_String_empty_f Tryd.lays169 Tryd.Builder_Extra_169 B b w h hBw
open Go.RowKit in
/-- (*strings.Builder).String: "String returns the accumulated string.": WHATEVER THE BUILDER HOLDS; THE FORM '_f': OF A BUILDER THAT MAY HAVE BEEN READ BEFORE; AND IT IS A BUILDER STILL, holding the same bytes: it can be written on. (LAID: no walk: one application.) -/
theorem Tryd.Builder_String_any_f (B b : Nat) (l : List UInt8) (w : World) (h : Lib.IsBuilderF 145 5 B b (Lib.byteCells l) w) (hBw : B ≤ w.heap.size) :
    Calls Tryd.prog 97 #[.pointer (some ⟨b, 0, none⟩)] w fun e w' => e = .returned (.string ⟨l.toArray⟩) ∧ (Lib.IsBuilderF 145 5 B b (Lib.byteCells l) w' ∧ Below B w w') := Any.Builder_String_any_f Tryd.lays169 Tryd.Builder_Extra_169 B b l w h hBw
def Tryd.lays206_ren : Go.Shelf.Ren := ⟨fun | 206 => 88 | n => n, fun | 9 => 9 | 4 => 4 | 3 => 3 | n => n, fun | n => n⟩
theorem Tryd.lays206 : Go.Proofs.Lays.n206 Tryd.prog Tryd.lays206_ren := {
  mixed := by kernel_rfl
  f206 := Tryd.func88.trans (congrArg some (by kernel_rfl))
  t3 := Tryd.underlying3
  a3 := Tryd.isAgg3
  z3 := Tryd.sizeOf3
  v3 := Tryd.zeroValue3
  t4 := Tryd.underlying4
  a4 := Tryd.isAgg4
  z4 := Tryd.sizeOf4
  v4 := Tryd.zeroValue4
  t9 := Tryd.underlying9
  a9 := Tryd.isAgg9
  z9 := Tryd.sizeOf9
  v9 := Tryd.zeroValue9 }
open Go.RowKit Go.Lib in
/-- internal/stringslite.HasPrefix (what strings.HasPrefix calls). (LAID: no walk: one application.) -/
theorem Tryd.stringslite_HasPrefix (s p : ByteArray) (w : World) :
    Calls Tryd.prog 88 #[.string s, .string p] w fun e w' => e = .returned (.bool (Lib.hasPrefix s.data.toList p.data.toList)) ∧ w' = w := Any.stringslite_HasPrefix Tryd.lays206 s p w
def Tryd.lays99_ren : Go.Shelf.Ren := ⟨fun | 99 => 71 | 206 => 88 | n => n, fun | 9 => 9 | 4 => 4 | 3 => 3 | n => n, fun | n => n⟩
theorem Tryd.lays99 : Go.Proofs.Lays.n99 Tryd.prog Tryd.lays99_ren := {
  mixed := by kernel_rfl
  f99 := Tryd.func71.trans (congrArg some (by kernel_rfl))
  f206 := Tryd.func88.trans (congrArg some (by kernel_rfl))
  t3 := Tryd.underlying3
  a3 := Tryd.isAgg3
  z3 := Tryd.sizeOf3
  v3 := Tryd.zeroValue3
  t4 := Tryd.underlying4
  a4 := Tryd.isAgg4
  z4 := Tryd.sizeOf4
  v4 := Tryd.zeroValue4
  t9 := Tryd.underlying9
  a9 := Tryd.isAgg9
  z9 := Tryd.sizeOf9
  v9 := Tryd.zeroValue9 }
open Go.RowKit Go.Lib in
/-- strings.HasPrefix: "HasPrefix reports whether the string s begins with prefix.": IT RETURNS 'Lib.hasPrefix s prefix'; the world is as it was. (LAID: no walk: one application.) -/
theorem Tryd.strings_HasPrefix (s p : ByteArray) (w : World) :
    Calls Tryd.prog 71 #[.string s, .string p] w fun e w' => e = .returned (.bool (Lib.hasPrefix s.data.toList p.data.toList)) ∧ w' = w := Any.strings_HasPrefix Tryd.lays99 s p w
def Tryd.lays264_ren : Go.Shelf.Ren := ⟨fun | 264 => 100 | n => n, fun | 53 => 156 | 46 => 121 | n => n, fun | n => n⟩
theorem Tryd.lays264 : Go.Proofs.Lays.n264 Tryd.prog Tryd.lays264_ren := {
  mixed := by kernel_rfl
  f264 := Tryd.func100.trans (congrArg some (by kernel_rfl))
  t46 := Tryd.underlying121
  a46 := Tryd.isAgg121
  z46 := Tryd.sizeOf121
  v46 := Tryd.zeroValue121
  t53 := Tryd.underlying156
  a53 := Tryd.isAgg156
  z53 := Tryd.sizeOf156
  v53 := Tryd.zeroValue156 }
open Go.RowKit Go.Lib in
theorem Tryd.bits_Mul64 (x y : Nat) (hx : x < 18446744073709551616) (hy : y < 18446744073709551616) (w : World) :
    Calls Tryd.prog 100 #[.int .u64 x, .int .u64 y] w fun e w' => e = .returned (.tuple #[.int .u64 ((x * y / 18446744073709551616 : Nat) : Int), .int .u64 ((x * y % 18446744073709551616 : Nat) : Int)]) ∧ w' = w := Any.bits_Mul64 Tryd.lays264 x y hx hy w
def Tryd.lays212_ren : Go.Shelf.Ren := ⟨fun | 212 => 93 | 263 => 99 | 264 => 100 | n => n, fun | 46 => 121 | 51 => 153 | 146 => 154 | 53 => 156 | 148 => 157 | n => n, fun | n => n⟩
theorem Tryd.lays212 : Go.Proofs.Lays.n212 Tryd.prog Tryd.lays212_ren := {
  mixed := by kernel_rfl
  f212 := Tryd.func93.trans (congrArg some (by kernel_rfl))
  f263 := Tryd.func99.trans (congrArg some (by kernel_rfl))
  f264 := Tryd.func100.trans (congrArg some (by kernel_rfl))
  t46 := Tryd.underlying121
  a46 := Tryd.isAgg121
  z46 := Tryd.sizeOf121
  v46 := Tryd.zeroValue121
  t51 := Tryd.underlying153
  a51 := Tryd.isAgg153
  z51 := Tryd.sizeOf153
  v51 := Tryd.zeroValue153
  t53 := Tryd.underlying156
  a53 := Tryd.isAgg156
  z53 := Tryd.sizeOf156
  v53 := Tryd.zeroValue156
  t146 := Tryd.underlying154
  a146 := Tryd.isAgg154
  z146 := Tryd.sizeOf154
  v146 := Tryd.zeroValue154
  t148 := Tryd.underlying157
  a148 := Tryd.isAgg157
  z148 := Tryd.sizeOf157
  v148 := Tryd.zeroValue157 }
open Go.RowKit Go.Lib in
/-- math/bits.Mul: "Mul returns the full-width product of x and y": on a machine of 64 bits: Mul64's. (LAID: no walk: one application.) -/
theorem Tryd.bits_Mul (x y : Nat) (hx : x < 18446744073709551616) (hy : y < 18446744073709551616) (w : World) :
    Calls Tryd.prog 93 #[.int .u64 x, .int .u64 y] w fun e w' => e = .returned (.tuple #[.int .u64 ((x * y / 18446744073709551616 : Nat) : Int), .int .u64 ((x * y % 18446744073709551616 : Nat) : Int)]) ∧ w' = w := Any.bits_Mul Tryd.lays212 x y hx hy w
def Tryd.lays105_ren : Go.Shelf.Ren := ⟨fun | 105 => 87 | 212 => 93 | 99 => 71 | 165 => 94 | 166 => 95 | 170 => 96 | 169 => 97 | 263 => 99 | 264 => 100 | 206 => 88 | 240 => 101 | 241 => 102 | 276 => 103 | 277 => 104 | n => n, fun | 9 => 9 | 3 => 3 | 4 => 4 | 20 => 20 | 0 => 0 | 46 => 121 | 109 => 141 | 5 => 5 | 72 => 145 | 76 => 149 | 51 => 153 | 146 => 154 | 53 => 156 | 148 => 157 | 70 => 143 | 37 => 120 | 75 => 148 | 127 => 159 | 164 => 160 | 80 => 152 | n => n, fun | n => n⟩
theorem Tryd.lays105 : Go.Proofs.Lays.n105 Tryd.prog Tryd.lays105_ren := {
  mixed := by kernel_rfl
  f99 := Tryd.func71.trans (congrArg some (by kernel_rfl))
  f105 := Tryd.func87.trans (congrArg some (by kernel_rfl))
  f165 := Tryd.func94.trans (congrArg some (by kernel_rfl))
  f166 := Tryd.func95.trans (congrArg some (by kernel_rfl))
  f169 := Tryd.func97.trans (congrArg some (by kernel_rfl))
  f170 := Tryd.func96.trans (congrArg some (by kernel_rfl))
  f206 := Tryd.func88.trans (congrArg some (by kernel_rfl))
  f212 := Tryd.func93.trans (congrArg some (by kernel_rfl))
  f240 := Tryd.func101.trans (congrArg some (by kernel_rfl))
  f241 := Tryd.func102.trans (congrArg some (by kernel_rfl))
  f263 := Tryd.func99.trans (congrArg some (by kernel_rfl))
  f264 := Tryd.func100.trans (congrArg some (by kernel_rfl))
  f276 := Tryd.func103.trans (congrArg some (by kernel_rfl))
  f277 := Tryd.func104.trans (congrArg some (by kernel_rfl))
  t0 := Tryd.underlying0
  a0 := Tryd.isAgg0
  z0 := Tryd.sizeOf0
  v0 := Tryd.zeroValue0
  t3 := Tryd.underlying3
  a3 := Tryd.isAgg3
  z3 := Tryd.sizeOf3
  v3 := Tryd.zeroValue3
  t4 := Tryd.underlying4
  a4 := Tryd.isAgg4
  z4 := Tryd.sizeOf4
  v4 := Tryd.zeroValue4
  t5 := Tryd.underlying5
  a5 := Tryd.isAgg5
  z5 := Tryd.sizeOf5
  v5 := Tryd.zeroValue5
  t9 := Tryd.underlying9
  a9 := Tryd.isAgg9
  z9 := Tryd.sizeOf9
  v9 := Tryd.zeroValue9
  t20 := Tryd.underlying20
  a20 := Tryd.isAgg20
  z20 := Tryd.sizeOf20
  v20 := Tryd.zeroValue20
  t37 := Tryd.underlying120
  a37 := Tryd.isAgg120
  z37 := Tryd.sizeOf120
  v37 := Tryd.zeroValue120
  t46 := Tryd.underlying121
  a46 := Tryd.isAgg121
  z46 := Tryd.sizeOf121
  v46 := Tryd.zeroValue121
  t51 := Tryd.underlying153
  a51 := Tryd.isAgg153
  z51 := Tryd.sizeOf153
  v51 := Tryd.zeroValue153
  t53 := Tryd.underlying156
  a53 := Tryd.isAgg156
  z53 := Tryd.sizeOf156
  v53 := Tryd.zeroValue156
  t70 := Tryd.underlying143
  a70 := Tryd.isAgg143
  z70 := Tryd.sizeOf143
  v70 := Tryd.zeroValue143
  t72 := Tryd.underlying145
  a72 := Tryd.isAgg145
  z72 := Tryd.sizeOf145
  v72 := Tryd.zeroValue145
  t75 := Tryd.underlying148
  a75 := Tryd.isAgg148
  z75 := Tryd.sizeOf148
  v75 := Tryd.zeroValue148
  t76 := Tryd.underlying149
  a76 := Tryd.isAgg149
  z76 := Tryd.sizeOf149
  v76 := Tryd.zeroValue149
  t109 := Tryd.underlying141
  a109 := Tryd.isAgg141
  z109 := Tryd.sizeOf141
  v109 := Tryd.zeroValue141
  t127 := Tryd.underlying159
  a127 := Tryd.isAgg159
  z127 := Tryd.sizeOf159
  v127 := Tryd.zeroValue159
  t146 := Tryd.underlying154
  a146 := Tryd.isAgg154
  z146 := Tryd.sizeOf154
  v146 := Tryd.zeroValue154
  t148 := Tryd.underlying157
  a148 := Tryd.isAgg157
  z148 := Tryd.sizeOf157
  v148 := Tryd.zeroValue157
  t164 := Tryd.underlying160
  a164 := Tryd.isAgg160
  z164 := Tryd.sizeOf160
  v164 := Tryd.zeroValue160 }
theorem Tryd.Builder_Extra_105 : Builder.Extra Tryd.prog Tryd.lays105_ren := {
  sizeBuilder := by kernel_rfl
  liesBuilder := by kernel_rfl
  t5 := Tryd.underlying5
  a5 := Tryd.isAgg5
  z5 := Tryd.sizeOf5
  v5 := Tryd.zeroValue5
  infoByte := by kernel_rfl
  cellsByte := by kernel_rfl
  sizeByte := by kernel_rfl
  neB5 := by decide }
open Go.RowKit Go.Lib in
/-- THE MAIN CASE: at least two copies of a string that is not empty. (LAID: no walk: one application.) -/
theorem Tryd.strings_Repeat_main (s : ByteArray) (c : Nat) (w : World) (hc2 : 2 ≤ c) (hc : c ≤ 9223372036854775807) (hlen : s.size * c ≤ 140737488355328) (h0 : 0 < s.size) :
    Calls Tryd.prog 87 #[.string s, .int .i64 c] w fun e w' => e = .returned (.string ⟨(Lib.repeatL s.data.toList c).toArray⟩) ∧ Below w.heap.size w w' := Any.strings_Repeat_main Tryd.lays105 Tryd.Builder_Extra_105 s c w hc2 hc hlen h0
open Go.RowKit Go.Lib in
theorem Tryd.strings_Repeat_zero (s : ByteArray) (w : World) :
    Calls Tryd.prog 87 #[.string s, .int .i64 0] w fun e w' => e = .returned (.string ⟨#[]⟩) ∧ w' = w := Any.strings_Repeat_zero Tryd.lays105 s w
open Go.RowKit Go.Lib in
theorem Tryd.strings_Repeat_one (s : ByteArray) (w : World) :
    Calls Tryd.prog 87 #[.string s, .int .i64 1] w fun e w' => e = .returned (.string s) ∧ w' = w := Any.strings_Repeat_one Tryd.lays105 s w
open Go.RowKit Go.Lib in
/-- Copies of the empty string. (LAID: no walk: one application.) -/
theorem Tryd.strings_Repeat_empty (s : ByteArray) (c : Nat) (w : World) (hc2 : 2 ≤ c) (hc : c ≤ 9223372036854775807) (h0 : s.size = 0) :
    Calls Tryd.prog 87 #[.string s, .int .i64 c] w fun e w' => e = .returned (.string ⟨#[]⟩) ∧ w' = w := Any.strings_Repeat_empty Tryd.lays105 s c w hc2 hc h0
open Go.RowKit Go.Lib in
/-- count < 0: "It panics if count is negative". (LAID: no walk: one application.) -/
theorem Tryd.strings_Repeat_negative (s : ByteArray) (c : Int) (w : World) (hc : c < 0) :
    Calls Tryd.prog 87 #[.string s, .int .i64 c] w fun e w' => e = .panicked [{ v := repeatPanic Tryd.lays105_ren "strings: negative Repeat count", recovered := false }] ∧ w' = w := Any.strings_Repeat_negative Tryd.lays105 s c w hc
open Go.RowKit Go.Lib in
/-- len(s) * count is no int: ".. or if the result of (len(s) * count) overflows". (LAID: no walk: one application.) -/
theorem Tryd.strings_Repeat_overflow (s : ByteArray) (c : Nat) (w : World) (hc : c ≤ 9223372036854775807) (hs : s.size ≤ 9223372036854775807) (hbig : 9223372036854775807 < s.size * c) :
    Calls Tryd.prog 87 #[.string s, .int .i64 c] w fun e w' => e = .panicked [{ v := repeatPanic Tryd.lays105_ren "strings: Repeat output length overflow", recovered := false }] ∧ w' = w := Any.strings_Repeat_overflow Tryd.lays105 s c w hc hs hbig
open Go.RowKit Go.Lib in
/-- **strings.Repeat: count ≥ 0, the result within one allocation: count copies of s.** (LAID: no walk: one application.) -/
theorem Tryd.strings_Repeat (s : ByteArray) (c : Nat) (w : World) (hc : c ≤ 9223372036854775807) (hlen : s.size * c ≤ 140737488355328) :
    Calls Tryd.prog 87 #[.string s, .int .i64 c] w fun e w' => e = .returned (.string ⟨(Lib.repeatL s.data.toList c).toArray⟩) ∧ Below w.heap.size w w' := Any.strings_Repeat Tryd.lays105 Tryd.Builder_Extra_105 s c w hc hlen
def Tryd.laysNm216_ren : Go.Shelf.Ren := ⟨fun | 16 => 57 | n => n, fun | 24 => 52 | 9 => 9 | 4 => 4 | n => n, fun | n => n⟩
theorem Tryd.laysNm216 : Go.Proofs.Lays2.n16 Tryd.prog Tryd.laysNm216_ren := {
  mixed := by kernel_rfl
  f16 := Tryd.func57.trans (congrArg some (by kernel_rfl))
  t4 := Tryd.underlying4
  a4 := Tryd.isAgg4
  z4 := Tryd.sizeOf4
  v4 := Tryd.zeroValue4
  t9 := Tryd.underlying9
  a9 := Tryd.isAgg9
  z9 := Tryd.sizeOf9
  v9 := Tryd.zeroValue9
  t24 := Tryd.underlying52
  a24 := Tryd.isAgg52
  z24 := Tryd.sizeOf52
  v24 := Tryd.zeroValue52
  i9 := by kernel_rfl }
open Go.RowKit Go.Lib in
/-- slices.Clone at []string: "Clone returns a copy of the slice. The elements are copied using assignment, so this is a shallow clone. The result may have additional unused capacity. The result preserves the nilness of s.": OF A SLICE THAT IS NOT nil IT RETURNS A SLICE THAT IS NOT nil, OF THE SAME ELEMENTS, IN MEMORY OF THE CALL's OWN: in the how-to's words (6f): 'w'.ownsRow B e 1 v' n cells': v' begins at the head of a row among the blocks from B on (B: the heap's size at the call), not frozen, whose first cells are the elements · 'Below B w w'': below B all is as it was. The capacity is whatever the run-time gives. 'zs': what the cells behind the slice's address hold; 'zs.take n': its elements. (LAID: no walk: one application.) -/
theorem Tryd.slices_Clone_string (b off n c : Nat) (zs : List ByteArray) (w : World) (hz : n ≤ zs.length) (hbig : n * 16 ≤ 140737488355328) (hc : ∀ j, j < zs.length → w.cell? ⟨b, off + j, none⟩ = some (.string (zs.getD j ByteArray.empty))) :
    Calls Tryd.prog 57 #[.slice (some ⟨b, off, none⟩) n c] w fun e w' => ∃ v', e = .returned v' ∧ w'.ownsRow w.heap.size 9 1 v' n ((zs.take n).map (Value.string)) ∧ v' ≠ .slice none 0 0 ∧ Below w.heap.size w w' := Any.slices_Clone_string Tryd.laysNm216 b off n c zs w hz hbig hc
open Go.RowKit Go.Lib in
/-- The same at nil: nil comes back; the world is as it was. (LAID: no walk: one application.) -/
theorem Tryd.slices_Clone_string_nil (n c : Nat) (w : World) :
    Calls Tryd.prog 57 #[.slice none n c] w fun e w' => e = .returned (.slice none 0 0) ∧ w' = w := Any.slices_Clone_string_nil Tryd.laysNm216 n c w
open Go.RowKit Go.Lib in
/-- The same at a slice of length 0 that is not nil, WHATEVER ITS ADDRESS (no cell is asked for): a slice that is not nil and owns nothing comes back. (LAID: no walk: one application.) -/
theorem Tryd.slices_Clone_string_zero (a : Addr) (c : Nat) (w : World) :
    Calls Tryd.prog 57 #[.slice (some a) 0 c] w fun e w' => ∃ v', e = .returned v' ∧ w'.ownsRow w.heap.size 9 1 v' 0 [] ∧ v' ≠ .slice none 0 0 ∧ Below w.heap.size w w' := Any.slices_Clone_string_zero Tryd.laysNm216 a c w
end Go.Proofs

namespace Go.Proofs.YtjhmfljlclajnabDoor
open Go.RowKit Wb
set_option linter.unusedVariables false
set_option linter.unusedSimpArgs false
set_option maxRecDepth 100000
set_option maxHeartbeats 1000000

theorem rep_zero (c : Nat) : Lib.repeatL [0] c = List.replicate c (0 : UInt8) := by
  induction c with
  | zero => rfl
  | succ c ih => rw [Lib.repeatL, ih, List.replicate_succ]; rfl
theorem ba_ext {x y : ByteArray} (h : x.data.toList = y.data.toList) : x = y := by
  rw [← str_toList x, h, str_toList y]

theorem disk_Fit (s : ByteArray) (w : World) (hs : s.size ≤ 9223372036854775807) :
    Calls Tryd.prog 68 #[.string s] w fun e w' => e = .returned (.string (fit s)) ∧ Below w.heap.size w w' := by
  by_cases hlt : s.size < 32
  · obtain ⟨c, hc⟩ : ∃ c : Nat, c + s.size = 32 := ⟨32 - s.size, by omega⟩
    have hR := fun w => Tryd.strings_Repeat ⟨#[0]⟩ c w (by omega) (by show 1 * c ≤ _; omega)
    have hfit : fit s = s ++ ⟨(Lib.repeatL [0] c).toArray⟩ := by
      apply ba_ext
      have hl : s.data.toList.length = s.size := by rw [Array.length_toList]; rfl
      have e : 32 - s.data.toList.length = c := by omega
      rw [rep_zero]
      simp only [fit, str, fitL, e, ByteArray.data_append, Array.toList_append]
      rw [List.take_of_length_le (by omega)]
    have hrl : (Lib.repeatL [0] c).length ≤ 32 := by rw [rep_zero, List.length_replicate]; omega
    have e1 : (32 - (s.size : Int)) = (c : Int) := by omega
    replace hfit := hid hfit
    replace hR := hid hR
    generalize fit s = ft at *
    go_enter Tryd.func68, Tryd.ntmps68
    go_wp2_with (go_at_call 87; refine (hR.out _).mono ?_; rintro e w1 ⟨rfl, hb1⟩)
    go_ret
    exact ⟨ret_s hfit.out.symm, hb1⟩
  · have hfit : fit s = s.extract 0 32 := by
      apply ba_ext
      have hl : s.data.toList.length = s.size := by rw [Array.length_toList]; rfl
      have e : 32 - s.data.toList.length = 0 := by omega
      simp only [fit, str, fitL, e, List.replicate_zero, List.append_nil]
      rw [Lib.extract_data]
      simp
    rw [hfit]
    go_enter Tryd.func68, Tryd.ntmps68
    go_wp2
    go_ret
    exact ⟨rfl, by repeat (first | exact Below.refl _ _ | with_reducible assumption | (refine allocB ?_ (by first | omega | (simp; done) | (simp; omega)) _) | (refine Below.setCell ?_ (by first | omega | (simp; done) | (simp; omega)) _) | refine Below.drew ?_ | (refine Below.trans ?_ (Below.mono (by with_reducible assumption) (by first | omega | (simp; done) | (simp; omega)))))⟩
end Go.Proofs.YtjhmfljlclajnabDoor
