/- The walk of CopyDisk. -/
import Derived.Test.YtjhmfljlclajnacGreatDoorRegApp
import Derived.Test.YtjhmfljlclajnacGreatDoorDisk3
namespace Go.Proofs.YtjhmfljlclajnacGreatDoor
open Go.RowKit Wb
set_option linter.unusedVariables false
set_option linter.unusedSimpArgs false
set_option maxRecDepth 100000
set_option maxHeartbeats 4000000

theorem ref_CopyDisk (d : Dsk) (v : Value) (w : World) (hd : RDisk w v d) :
    Calls Tryz.prog 136 #[v] w fun e w' => ∃ vs vw, e = .returned (.agg #[vs, vw]) ∧ Own strC w.heap.size 9 1 w' vs d.safe ∧ Own wrC w.heap.size 95 2 w' vw d.writes ∧ (vs.ownBlock = none ∨ vs.ownBlock ≠ vw.ownBlock) ∧ Below w.heap.size w w' := by
  obtain ⟨vs, vw, rfl, hs, hw, n1, n2⟩ := hd
  obtain ⟨safe, writes⟩ := d
  dsimp only at *
  obtain ⟨a, cap, rfl, c1, c2⟩ := hs.form
  obtain ⟨b, bcap, rfl, c3, c4⟩ := hw.form
  replace hs := hid hs
  replace hw := hid hw
  go_enter Tryz.func136, Tryz.ntmps136
  go_wp2
  go_region_law (first
    | (refine step_app rfl _ _ 43 rfl _ _ 1 16 strC_flat elemStr (Own.nil _ _ _ _ _) rfl safe (hs.out.below (by repeat (first | exact Below.refl _ _ | with_reducible assumption | (refine allocB ?_ (by first | omega | (simp; done) | (simp; omega)) _) | (refine Below.setCell ?_ (by first | omega | (simp; done) | (simp; omega)) _) | refine Below.drew ?_ | (refine Below.trans ?_ (Below.mono (by with_reducible assumption) (by first | omega | (simp; done) | (simp; omega))))))) rfl (by simp; omega) (by simp; omega) (Nat.le_refl _) ?_; intro v1 w1 hown1 hb1 _; obtain ⟨a1, cap1, rfl⟩ := hown1.form; obtain ⟨hbc, hbf⟩ := bcell hb1; have hbz := hb1.size; try simp only [World.size_alloc, World.size_setCell, World.size_drew] at hbz; have hz0 := Nat.lt_of_lt_of_le (n := w.heap.size) (by omega) hbz; have hz1 := Nat.lt_of_lt_of_le (n := w.heap.size + 1) (by omega) hbz; simp only [List.nil_append] at hown1)
    | (refine step_app rfl _ _ 44 rfl _ _ 2 24 wrC_flat elemWr (Own.nil _ _ _ _ _) rfl writes (hw.out.below (by repeat (first | exact Below.refl _ _ | with_reducible assumption | (refine allocB ?_ (by first | omega | (simp; done) | (simp; omega)) _) | (refine Below.setCell ?_ (by first | omega | (simp; done) | (simp; omega)) _) | refine Below.drew ?_ | (refine Below.trans ?_ (Below.mono (by with_reducible assumption) (by first | omega | (simp; done) | (simp; omega))))))) rfl (by simp; omega) (by simp; omega) (Nat.le_refl _) ?_; intro v2 w2 hown2 hb2 _; obtain ⟨a2, cap2, rfl⟩ := hown2.form; obtain ⟨hbc2, hbf2⟩ := bcell hb2; simp only [List.nil_append] at hown2))
  all_goals
    have hz2 := hb2.size
    have t1 := World.ownsRow.lt hown1
    have t2 := World.ownsRow.lt hown2
    have hsep : (Value.slice a1 safe.length cap1).ownBlock = none ∨ (Value.slice a1 safe.length cap1).ownBlock ≠ (Value.slice a2 writes.length cap2).ownBlock := by
      cases h1 : (Value.slice a1 safe.length cap1).ownBlock with
      | none => exact .inl rfl
      | some k =>
        refine .inr fun h2 => ?_
        have g1 := (t1 k h1).2
        have g2 := (t2 k h2.symm).1
        omega
    have k1 : Blk _ (w.heap.size + 1) #[.slice a1 safe.length cap1, .slice a2 writes.length cap2] 46 := (((((Blk.newAt (w := w.alloc (.cells #[.slice a safe.length cap, .slice b writes.length bcap] 46)) (cs := #[.slice none 0 0, .slice none 0 0]) (t := 46) (n := w.heap.size + 1) (by simp)).drew.step hb1).step hb2).set 0 (.slice a1 safe.length cap1)).set 1 (.slice a2 writes.length cap2))
    have o1 := ((hown1.below hb2).setCell (p := ⟨w.heap.size + 1, 0, none⟩) (by simp) (.slice a1 safe.length cap1)).setCell (p := ⟨w.heap.size + 1, 1, none⟩) (by simp) (.slice a2 writes.length cap2)
    have o2 := (hown2.setCell (p := ⟨w.heap.size + 1, 0, none⟩) (by simp; omega) (.slice a1 safe.length cap1)).setCell (p := ⟨w.heap.size + 1, 1, none⟩) (by simp; omega) (.slice a2 writes.length cap2)
    have hnx : Below w.heap.size w ((w2.setCell ⟨w.heap.size + 1, 0, none⟩ (.slice a1 safe.length cap1)).setCell ⟨w.heap.size + 1, 1, none⟩ (.slice a2 writes.length cap2)) := by repeat (first | exact Below.refl _ _ | with_reducible assumption | (refine allocB ?_ (by first | omega | (simp; done) | (simp; omega)) _) | (refine Below.setCell ?_ (by first | omega | (simp; done) | (simp; omega)) _) | refine Below.drew ?_ | (refine Below.trans ?_ (Below.mono (by with_reducible assumption) (by first | omega | (simp; done) | (simp; omega)))))
    generalize (w2.setCell ⟨w.heap.size + 1, 0, none⟩ (.slice a1 safe.length cap1)).setCell ⟨w.heap.size + 1, 1, none⟩ (.slice a2 writes.length cap2) = w3 at *
    replace o1 := o1.mono (base' := w.heap.size) (by simp; omega)
    replace o2 := o2.mono (base' := w.heap.size) (by omega)
    clear hb1 hb2 hbc hbf hbc2 hbf2 hown1 hown2 hbz hz0 hz1 hz2 t1 t2
    have d0 := k1.cell 0
    have d1 := k1.cell 1
    simp only [List.getElem?_toArray, List.getElem?_cons_zero, List.getElem?_cons_succ] at d0 d1
    go_wp2
    exact bodyPost_ret (v := .agg #[.slice a1 safe.length cap1, .slice a2 writes.length cap2]) (by simp [results, Tryz.results136, go_sem, d0, d1]) rfl ⟨_, _, rfl, o1, o2, hsep, hnx⟩
end Go.Proofs.YtjhmfljlclajnacGreatDoor
