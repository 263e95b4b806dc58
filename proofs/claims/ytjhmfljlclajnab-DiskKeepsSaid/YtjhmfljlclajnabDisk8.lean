/- The walk of disk.Put, its good way. -/
import Derived.Test.YtjhmfljlclajnabDisk6
import Derived.Test.YtjhmfljlclajnabRegCall
import Derived.Deep.RegionHeld3
import Derived.Deep.CutBlock
import Derived.Deep.DeepCutAuto
namespace Go.Proofs.Ytjhmfljlclajnab
open Go.RowKit Wb
set_option linter.unusedVariables false
set_option linter.unusedSimpArgs false
set_option maxRecDepth 100000
set_option maxHeartbeats 1000000

theorem disk_Put_good (d : Dsk) (n : Int) (t : ByteArray) (v : Value) (w : World) (hd : RDisk w v d) (hg : goodD d = true) (ha : isAt n = true) (h32 : t.size = 32) (h200 : ¬ 200 ≤ d.writes.length) :
    Calls Try.prog 48 #[v, .int .i64 n, .string t] w fun e w' => ∃ v', e = .returned (.tuple #[v', .int .i64 0]) ∧ RDisk w' v' ⟨d.safe, d.writes ++ [⟨n, t⟩]⟩ ∧ Below w.heap.size w w' := by
  have hG := fun w (hh : RDisk w v d) => disk_Good d v w hh
  have hA := fun w => disk_at n w
  rw [hg] at hG
  rw [ha] at hA
  have e1 : ((t.size : Int) != 32) = false := by rw [h32]; rfl
  have hd2 := hd
  obtain ⟨vs, vw, rfl, hs, hw, n1, n2⟩ := hd
  obtain ⟨a, cap, rfl, ca1, ca2⟩ := hs.form
  obtain ⟨b, bcap, rfl, cb1, cb2⟩ := hw.form
  replace hd2 := hid hd2
  clear hg ha h32
  obtain ⟨safe, writes⟩ := d
  dsimp only at *
  have hC := fun v w (hh : RL wrC w v writes) => clone_Writes writes v w hh n2
  replace hG := hid hG
  replace hA := hid hA
  replace hC := hid hC
  replace hs := hid hs
  replace hw := hid hw
  go_enter Try.func48, Try.ntmps48
  go_wp2_with (first
    | (go_at_call 20; refine (hG.out _ (hd2.out.below (by repeat (first | exact Below.refl _ _ | with_reducible assumption | (refine allocB ?_ (by first | omega | (simp; done) | (simp; omega)) _) | (refine Below.setCell ?_ (by first | omega | (simp; done) | (simp; omega)) _) | refine Below.drew ?_ | (refine Below.trans ?_ (Below.mono (by with_reducible assumption) (by first | omega | (simp; done) | (simp; omega)))))))).mono ?_; rintro e w1 ⟨rfl, hb1⟩; obtain ⟨hbc, hbf⟩ := bcell hb1; have hbz := hb1.size; try simp only [World.size_alloc, World.size_setCell, World.size_drew] at hbz; have hz0 := Nat.lt_of_lt_of_le (n := w.heap.size) (by omega) hbz; have hz1 := Nat.lt_of_lt_of_le (n := w.heap.size + 1) (by omega) hbz)
    | (go_at_call 53; refine (hA.out _).mono ?_; rintro e w2 ⟨rfl, rfl⟩))
  have hnx : Below w.heap.size w w1 := by repeat (first | exact Below.refl _ _ | with_reducible assumption | (refine allocB ?_ (by first | omega | (simp; done) | (simp; omega)) _) | (refine Below.setCell ?_ (by first | omega | (simp; done) | (simp; omega)) _) | refine Below.drew ?_ | (refine Below.trans ?_ (Below.mono (by with_reducible assumption) (by first | omega | (simp; done) | (simp; omega)))))
  have k0 : Blk w1 w.heap.size #[.slice a safe.length cap, .slice b writes.length bcap] 25 := ((Blk.new w _ _).alloc _).step hb1
  have k1 : Blk w1 (w.heap.size + 1) #[.slice none 0 0, .slice none 0 0] 25 := (Blk.newAt (w := w.alloc _) (by simp)).step hb1
  have c0 := k0.cell 0
  have c1 := k0.cell 1
  simp only [List.getElem?_toArray, List.getElem?_cons_zero, List.getElem?_cons_succ] at c0 c1
  have hw1 := hid (hw.out.below hnx)
  clear hb1 hbc hbf hw hd2
  go_region_held3 (fun w' => w'.cell? ⟨w.heap.size, 0, none⟩ = some (.slice a safe.length cap) ∧ w'.cell? ⟨w.heap.size, 1, none⟩ = some (.slice b writes.length bcap)) (first | exact ⟨by with_reducible assumption, by with_reducible assumption⟩ | go_keep) (first
    | (refine step_call 75 _ _ (by rfl) (by rfl) #[.slice b writes.length bcap] (by rfl) ⟨_, _, Try.func75, by kernel_rfl, rfl⟩ (hC.out _ _ (hw1.out.below (by repeat (first | exact Below.refl _ _ | with_reducible assumption | (refine allocB ?_ (by first | omega | (simp; done) | (simp; omega)) _) | (refine Below.setCell ?_ (by first | omega | (simp; done) | (simp; omega)) _) | refine Below.drew ?_ | (refine Below.trans ?_ (Below.mono (by with_reducible assumption) (by first | omega | (simp; done) | (simp; omega)))))))) ?_; rintro e w3 ⟨v3, rfl, hown3, hb3⟩; obtain ⟨a3, cap3, rfl⟩ := hown3.form; have hz3 : w1.heap.size ≤ w3.heap.size := (by have h := hb3.size; simp at h; omega); have k3 : Blk w3 (w.heap.size + 1) #[.slice none 0 0, .slice none 0 0] 25 := (by with_reducible (first | exact k1.drew.step hb3 | exact (k1.alloc _).drew.step hb3)); replace hown3 := hown3.mono (base' := w1.heap.size) (by simp); have hb13 : Below w.heap.size w w3 := (by with_reducible (first | exact hnx.drew.trans (hb3.mono (by simp; omega)) | exact (allocB hnx (by omega) _).drew.trans (hb3.mono (by simp; omega)))); have k03 : Blk w3 w.heap.size #[.slice a safe.length cap, .slice b writes.length bcap] 25 := (by with_reducible (first | exact k0.drew.step hb3 | exact (k0.alloc _).drew.step hb3)); have p0 := k03.cell 0; have p1 := k03.cell 1; simp only [List.getElem?_toArray, List.getElem?_cons_zero, List.getElem?_cons_succ] at p0 p1; refine ⟨_, rfl, ?_⟩)
    | go_loud (refine step_app (by rfl) _ _ 23 (by rfl) w1.heap.size _ 2 24 wrC_flat elemWr (hown3.alloc _) (by rfl) [⟨n, t⟩] (RL.newN (f := wrC) _ _ _ [⟨n, t⟩] (by show 1 ≤ maxLen; decide)) (by rfl) (by (try simp); omega) (by (try simp); unfold maxLen; omega) (by (try simp); omega) ?_; intro v4 w4 hown4 hb4 _; obtain ⟨a4, cap4, rfl⟩ := hown4.form; have k4 := (k3.alloc _).below hb4 (by omega); have hb14 := (allocB hb13 (by omega) _).trans (hb4.mono (by omega)); have k04 := (k03.alloc _).below hb4 (by omega); have p2 := k04.cell 0; have p3 := k04.cell 1; simp only [List.getElem?_toArray, List.getElem?_cons_zero, List.getElem?_cons_succ] at p2 p3; have f0 := k4.cell 0; have f1 := k4.cell 1; simp only [List.getElem?_toArray, List.getElem?_cons_zero, List.getElem?_cons_succ] at f0 f1; have f2 := k4.free 0; have f3 := k4.free 1)
    | go_loud (refine step_app (by rfl) _ _ 23 (by rfl) w1.heap.size _ 2 24 wrC_flat elemWr hown3 (by rfl) [⟨n, t⟩] (RL.ofBlk (f := wrC) (g := w1.heap.size) [⟨n, t⟩] ((Blk.newAt (w := w1) (by simp)).drew.step hb3) (by show 1 ≤ maxLen; decide)) (by rfl) (by (try simp); omega) (by (try simp); unfold maxLen; omega) (by (try simp); omega) ?_; intro v4 w4 hown4 hb4 _; obtain ⟨a4, cap4, rfl⟩ := hown4.form; have k4 := k3.below hb4 (by omega); have hb14 := hb13.trans (hb4.mono (by omega)); have k04 := k03.below hb4 (by omega); have p2 := k04.cell 0; have p3 := k04.cell 1; simp only [List.getElem?_toArray, List.getElem?_cons_zero, List.getElem?_cons_succ] at p2 p3; have f0 := k4.cell 0; have f1 := k4.cell 1; simp only [List.getElem?_toArray, List.getElem?_cons_zero, List.getElem?_cons_succ] at f0 f1; have f2 := k4.free 0; have f3 := k4.free 1))
  all_goals
    go_wp2
    have e4 : (writes ++ [(⟨n, t⟩ : Wr)]).length = writes.length + 1 := by simp
    rw [e4] at hown4
    have l1 := k1.lt
    have hF : Below w.heap.size w ((w4.setCell ⟨w.heap.size + 1, 0, none⟩ (.slice a safe.length cap)).setCell ⟨w.heap.size + 1, 1, none⟩ (.slice a4 (writes.length + 1) cap4)) := (hb14.setCell (by simp) _).setCell (by simp) _
    refine bodyPost_ret (v := .tuple #[.agg #[.slice a safe.length cap, .slice a4 (writes.length + 1) cap4], .int .i64 0]) (by simp [results, Try.results48, go_sem, f0, f1]) rfl ⟨_, rfl, ⟨_, _, rfl, hs.out.below hF, ?_, n1, by simp; omega⟩, hF⟩
    exact ((hown4.setCell (by simp; omega) _).setCell (by simp; omega) _).reads
end Go.Proofs.Ytjhmfljlclajnab
