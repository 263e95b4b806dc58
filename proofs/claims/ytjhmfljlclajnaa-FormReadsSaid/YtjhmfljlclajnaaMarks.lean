/- The law's helpers of marks. -/
import Derived.Test.YtjhmfljlclajnaaRegApp
import Derived.Test.YtjhmfljlclajnaaEnc
import Derived.Test.YtjhmfljlclajnaaEncR
namespace Go.Proofs.Ytjhmfljlclajnaa
open Go.RowKit Wb
set_option linter.unusedVariables false
set_option linter.unusedSimpArgs false
set_option maxRecDepth 100000
set_option maxHeartbeats 4000000

theorem elemTag : Elem Try.prog 41 75 2 16 := Elem.mk' (z := .agg #[.int .i64 0, .bool false]) Try.underlying41 (by kernel_rfl) rfl

theorem law_mark (m : Mrk) (v : Value) (w : World) (hm : RMark w v m) :
    Calls Try.prog 30 #[v] w fun e w' => ∃ v', e = .returned v' ∧ RMark w' v' m ∧ Below w.heap.size w w' := by
  obtain ⟨vt, vb, rfl, ht, hbk, n1, n2⟩ := hm
  obtain ⟨kd, sq, at_, tags, blks⟩ := m
  dsimp only at *
  obtain ⟨ta, tcap, rfl, tc1, tc2⟩ := ht.form
  obtain ⟨ba, bcap, rfl, bc1, bc2⟩ := hbk.form
  replace ht := hid ht
  replace hbk := hid hbk
  go_enter Try.func30, Try.ntmps30
  go_wp2
  go_region_law (first
    | (refine step_app rfl _ _ 41 rfl _ _ 2 16 tagC_flat elemTag (Own.nil _ _ _ _ _) rfl tags (ht.out.below (by repeat (first | exact Below.refl _ _ | with_reducible assumption | (refine allocB ?_ (by first | omega | (simp; done) | (simp; omega)) _) | (refine Below.setCell ?_ (by first | omega | (simp; done) | (simp; omega)) _) | refine Below.drew ?_ | (refine Below.trans ?_ (Below.mono (by with_reducible assumption) (by first | omega | (simp; done) | (simp; omega))))))) rfl (by simp; omega) (by simp; omega) (Nat.le_refl _) ?_; intro v1 w1 hown1 hb1 _; obtain ⟨a1, cap1, rfl⟩ := hown1.form; obtain ⟨hbc, hbf⟩ := bcell hb1; have hbz := hb1.size; try simp only [World.size_alloc, World.size_setCell, World.size_drew] at hbz; have hz0 := Nat.lt_of_lt_of_le (n := w.heap.size) (by omega) hbz; have hz1 := Nat.lt_of_lt_of_le (n := w.heap.size + 1) (by omega) hbz; simp only [List.nil_append] at hown1)
    | (refine step_app rfl _ _ 25 rfl _ _ 1 8 intC_flat elemInt (Own.nil _ _ _ _ _) rfl blks (hbk.out.below (by repeat (first | exact Below.refl _ _ | with_reducible assumption | (refine allocB ?_ (by first | omega | (simp; done) | (simp; omega)) _) | (refine Below.setCell ?_ (by first | omega | (simp; done) | (simp; omega)) _) | refine Below.drew ?_ | (refine Below.trans ?_ (Below.mono (by with_reducible assumption) (by first | omega | (simp; done) | (simp; omega))))))) rfl (by simp; omega) (by simp; omega) (Nat.le_refl _) ?_; intro v2 w2 hown2 hb2 _; obtain ⟨a2, cap2, rfl⟩ := hown2.form; obtain ⟨hbc2, hbf2⟩ := bcell hb2; simp only [List.nil_append] at hown2))
  all_goals
    have hz2 := hb2.size
    have k0 : Blk _ w.heap.size #[.int .i64 kd, .int .i64 sq, .int .i64 at_, .slice a1 tags.length cap1, .slice a2 blks.length cap2] 43 := ((((((Blk.new w _ _).alloc _).drew.step hb1).step hb2).set 3 (.slice a1 tags.length cap1)).set 4 (.slice a2 blks.length cap2))
    have k1 := (((((Blk.newAt (w := w.alloc (.cells #[.int .i64 kd, .int .i64 sq, .int .i64 at_, .slice ta tags.length tcap, .slice ba blks.length bcap] 43)) (cs := #[.int .i64 0, .int .i64 0, .int .i64 0, .slice none 0 0, .slice none 0 0]) (t := 43) (n := w.heap.size + 1) (by simp)).drew.step hb1).step hb2).set_other ⟨w.heap.size, 3, none⟩ (.slice a1 tags.length cap1) (by simp)).set_other ⟨w.heap.size, 4, none⟩ (.slice a2 blks.length cap2) (by simp))
    have o1 := ((hown1.below hb2).setCell (p := ⟨w.heap.size, 3, none⟩) (by simp; omega) (.slice a1 tags.length cap1)).setCell (p := ⟨w.heap.size, 4, none⟩) (by simp; omega) (.slice a2 blks.length cap2)
    have o2 := (hown2.setCell (p := ⟨w.heap.size, 3, none⟩) (by simp; omega) (.slice a1 tags.length cap1)).setCell (p := ⟨w.heap.size, 4, none⟩) (by simp; omega) (.slice a2 blks.length cap2)
    have hnx : Below w.heap.size w ((w2.setCell ⟨w.heap.size, 3, none⟩ (.slice a1 tags.length cap1)).setCell ⟨w.heap.size, 4, none⟩ (.slice a2 blks.length cap2)) := by repeat (first | exact Below.refl _ _ | with_reducible assumption | (refine allocB ?_ (by first | omega | (simp; done) | (simp; omega)) _) | (refine Below.setCell ?_ (by first | omega | (simp; done) | (simp; omega)) _) | refine Below.drew ?_ | (refine Below.trans ?_ (Below.mono (by with_reducible assumption) (by first | omega | (simp; done) | (simp; omega)))))
    have hz : w.heap.size + 2 ≤ ((w2.setCell ⟨w.heap.size, 3, none⟩ (.slice a1 tags.length cap1)).setCell ⟨w.heap.size, 4, none⟩ (.slice a2 blks.length cap2)).heap.size := by simp; omega
    generalize (w2.setCell ⟨w.heap.size, 3, none⟩ (.slice a1 tags.length cap1)).setCell ⟨w.heap.size, 4, none⟩ (.slice a2 blks.length cap2) = w3 at *
    replace o1 := o1.mono (base' := w.heap.size + 2) (by simp)
    replace o2 := o2.mono (base' := w.heap.size + 2) (by omega)
    clear hb1 hb2 hbc hbf hbc2 hbf2 hown1 hown2 hbz hz0 hz1 hz2
    have c0 := k0.cell 0
    have c1 := k0.cell 1
    have c2 := k0.cell 2
    have c3 := k0.cell 3
    have c4 := k0.cell 4
    simp only [List.getElem?_toArray, List.getElem?_cons_zero, List.getElem?_cons_succ] at c0 c1 c2 c3 c4
    have d0 := k1.cell 0
    have d1 := k1.cell 1
    have d2 := k1.cell 2
    have d3 := k1.cell 3
    have d4 := k1.cell 4
    simp only [List.getElem?_toArray, List.getElem?_cons_zero, List.getElem?_cons_succ] at d0 d1 d2 d3 d4
    have f0 := k1.free 0
    have f1 := k1.free 1
    have f2 := k1.free 2
    have f3 := k1.free 3
    have f4 := k1.free 4
    go_wp2
    refine bodyPost_ret (v := .agg #[.int .i64 kd, .int .i64 sq, .int .i64 at_, .slice a1 tags.length cap1, .slice a2 blks.length cap2]) (by simp [results, Try.results30, go_sem, d0, d1, d2, d3, d4]) rfl ⟨_, rfl, ⟨_, _, rfl, Own.reads (base := w.heap.size + 2) (e := 75) (c := 2) ?_, Own.reads (base := w.heap.size + 2) (e := 3) (c := 1) ?_, n1, n2⟩, ?_⟩
    · repeat (with_reducible refine Own.setCell ?_ (by simp) _)
      exact o1
    · repeat (with_reducible refine Own.setCell ?_ (by simp) _)
      exact o2
    · repeat (first | exact Below.refl _ _ | with_reducible assumption | (refine allocB ?_ (by first | omega | (simp; done) | (simp; omega)) _) | (refine Below.setCell ?_ (by first | omega | (simp; done) | (simp; omega)) _) | refine Below.drew ?_ | (refine Below.trans ?_ (Below.mono (by with_reducible assumption) (by first | omega | (simp; done) | (simp; omega)))))
end Go.Proofs.Ytjhmfljlclajnaa
