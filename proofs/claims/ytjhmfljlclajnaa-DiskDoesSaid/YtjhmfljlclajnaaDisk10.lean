/- The walk of the reference's FlushDisk. -/
import Derived.Test.YtjhmfljlclajnaaDisk9
namespace Go.Proofs.Ytjhmfljlclajnaa
open Go.RowKit Wb
set_option linter.unusedVariables false
set_option linter.unusedSimpArgs false
set_option maxRecDepth 100000
set_option maxHeartbeats 1000000

theorem after_end (s : ByteArray) (n : Int) (ws : List Wr) : ∃ q, (afterL s n ws).length = q + 1 ∧ (afterL s n ws)[q]? = some (lastT s n ws) := by
  have h := after_last s n ws
  rw [List.getLast?_eq_getElem?] at h
  have hl := (List.getElem?_eq_some_iff.1 h).1
  exact ⟨(afterL s n ws).length - 1, by omega, h⟩

theorem ref_FlushDisk (d : Dsk) (v : Value) (w : World) (hd : RDisk w v d) :
    Calls Try.prog 48 #[v] w fun e w' => ∃ v', e = .returned (.tuple #[v', .int .i64 (flushE d)]) ∧ RDisk w' v' (flushD d) ∧ Below w.heap.size w w' := by
  have hG := fun w (hh : RDisk w v d) => ref_GoodDisk d v w hh
  have hd2 := hd
  obtain ⟨vs, vw, rfl, hs, hw, n1, n2⟩ := hd
  obtain ⟨a, cap, rfl, ca1, ca2⟩ := hs.form
  obtain ⟨b, bcap, rfl, cb1, cb2⟩ := hw.form
  replace hd2 := hid hd2
  by_cases hg : goodD d = true
  · have he : flushE d = 0 := by unfold flushE; rw [if_pos hg]
    have hv : flushD d = ⟨flushL d.safe d.writes, []⟩ := by unfold flushD; rw [if_pos hg]
    rw [hv, he]
    rw [hg] at hG
    obtain ⟨g1, g2, _, g3⟩ := (goodD_iff d).1 hg
    have hA := fun (m : Nat) (hm : m < d.safe.length) w (hh : RDisk w (.agg #[.slice a d.safe.length cap, .slice b d.writes.length bcap]) d) => ref_after d m _ w hh hm g2
    have hE := fun (m : Nat) (hm : m < d.safe.length) => after_end d.safe[m] m d.writes
    have hM := fun (m : Nat) (hm : m < d.safe.length) => mapIdx_take (fun n x => lastT x n d.writes) d.safe hm
    have hF := flush_ref d.safe d.writes g3
    have hml : ∀ k, (List.take k (d.safe.mapIdx (fun n x => lastT x n d.writes))).length ≤ 37 := fun k => by rw [List.length_take, List.length_mapIdx]; omega
    have hmn : (d.safe.mapIdx (fun n x => lastT x n d.writes)).length = d.safe.length := List.length_mapIdx
    rw [← hF]
    clear he hv hg hF g3
    generalize hMM : d.safe.mapIdx (fun n x => lastT x n d.writes) = M at *
    replace hG := hid hG
    replace hA := hid hA
    replace hE := hid hE
    replace hM := hid hM
    replace hml := hid hml
    replace hmn := hid hmn
    replace g1 := hid g1
    clear hs hw hMM
    go_enter Try.func48, Try.ntmps48
    go_wp2_with (go_at_call 54; refine (hG.out _ (hd2.out.below (by repeat (first | exact Below.refl _ _ | with_reducible assumption | (refine allocB ?_ (by first | omega | (simp; done) | (simp; omega)) _) | (refine Below.setCell ?_ (by first | omega | (simp; done) | (simp; omega)) _) | refine Below.drew ?_ | (refine Below.trans ?_ (Below.mono (by with_reducible assumption) (by first | omega | (simp; done) | (simp; omega)))))))).mono ?_; rintro e w1 ⟨rfl, hb1⟩; obtain ⟨hbc, hbf⟩ := bcell hb1; have hbz := hb1.size; try simp only [World.size_alloc, World.size_setCell, World.size_drew] at hbz; have hz0 := Nat.lt_of_lt_of_le (n := w.heap.size) (by omega) hbz; have hz1 := Nat.lt_of_lt_of_le (n := w.heap.size + 1) (by omega) hbz; have k0 : Blk w1 w.heap.size #[.slice a d.safe.length cap, .slice b d.writes.length bcap] 56 := ((Blk.new w _ _).alloc _).step hb1; have k1 : Blk w1 (w.heap.size + 1) #[.slice none 0 0, .slice none 0 0] 56 := (Blk.newAt (w := w.alloc _) (by simp)).step hb1; have hnx3 : Below w.heap.size w w1 := (by repeat (first | exact Below.refl _ _ | with_reducible assumption | (refine allocB ?_ (by first | omega | (simp; done) | (simp; omega)) _) | (refine Below.setCell ?_ (by first | omega | (simp; done) | (simp; omega)) _) | refine Below.drew ?_ | (refine Below.trans ?_ (Below.mono (by with_reducible assumption) (by first | omega | (simp; done) | (simp; omega)))))); have lt1 := k1.lt; have lt0 := k0.lt; have c0 := k0.cell 0; have c1 := k0.cell 1; simp only [List.getElem?_toArray, List.getElem?_cons_zero, List.getElem?_cons_succ] at c0 c1; clear hb1 hbc hbf)
    go_loopw [5, 6, 15] (fun _ _ i wr => ∃ k : Nat, k ≤ d.safe.length ∧ i = .int .i64 k ∧ ∃ vo, Own strC (w1.heap.size + 1) 9 1 wr vo (M.take k) ∧ Blk wr w.heap.size #[.slice a d.safe.length cap, .slice b d.writes.length bcap] 56 ∧ Blk wr (w.heap.size + 1) #[.slice none 0 0, .slice none 0 0] 56 ∧ Blk wr w1.heap.size #[vo, .slice none 0 0] 56 ∧ Below w.heap.size w wr) (fun _ _ i _ => d.safe.length - (intOf i).toNat)
    case atStart => exact ⟨0, Nat.zero_le _, rfl, _, Own.nil _ _ _ _ _, k0.alloc _, k1.alloc _, Blk.new _ _ _, allocB hnx3 (by omega) _⟩
    case round =>
      obtain ⟨k, hk, rfl, vo, hown, k0, k1, k2, hnx⟩ := hrel
      obtain ⟨ao, capo, rfl⟩ := hown.form
      have lt0 := k0.lt
      have lt1 := k1.lt
      have lt2 := k2.lt
      have c0 := k0.cell 0
      have c1 := k0.cell 1
      have c2 := k1.cell 0
      have c3 := k1.cell 1
      have c4 := k2.cell 0
      have c5 := k2.cell 1
      simp only [List.getElem?_toArray, List.getElem?_cons_zero, List.getElem?_cons_succ] at c0 c1 c2 c3 c4 c5
      by_cases hlt : k < d.safe.length
      · have hA := hA.out k hlt
        obtain ⟨q, hq, hqv⟩ := hE.out k hlt
        have hq2 := hid (Nat.le_trans (Nat.le_of_eq hq.symm) (afterL_len d.safe[k] k d.writes))
        have hM := hM.out k hlt
        generalize lastT d.safe[k] k d.writes = r at *
        generalize afterL d.safe[k] k d.writes = ls at *
        have hql : q < ls.length := by omega
        have hqv : ls[q] = r := by rw [List.getElem?_eq_getElem hql] at hqv; exact Option.some.inj hqv
        replace hqv := hid hqv
        replace hM := hid hM
        replace hA := hid hA
        have hml := hml.out k
        generalize M.take k = Mk at *
        have hq201 := hq2.out
        go_wp2_with (go_at_call 71; go_loud (refine (hA.out _ (hd2.out.below (by with_reducible exact hnx))).mono ?_; rintro e w3 ⟨v3, rfl, hown3, hb3⟩; obtain ⟨a3, cap3, rfl⟩ := hown3.form; obtain ⟨b3, off3, rfl, d3⟩ := RL.at1 (fun x => .string x) (fun _ => rfl) hown3.reads hql; rw [hqv.out] at d3; rw [hq]; have hwq : IntKind.i64.wrap (q : Int) = q := IntWalk.i64_in _ (by omega); have hqlt : (q : Int) < (q : Int) + 1 := (by omega); have lt3 := World.block_lt_of_cell? _ _ d3; dsimp only at lt3; have k0 := k0.step hb3; have k1 := k1.step hb3; have k2 := k2.step hb3; have hnx3 := hnx.trans (hb3.mono (by omega)); have hown := hown.below hb3; have c4 := k2.cell 0; have f4 := k2.free 0; simp only [List.getElem?_toArray, List.getElem?_cons_zero, List.getElem?_cons_succ] at c4; have lt2 := k2.lt))
        go_region_law (first | go_loud (refine step_app (by rfl) _ _ 53 (by rfl) (w1.heap.size + 1) _ 1 16 strC_flat elemStr ((hown.alloc _).drew) (by rfl) [r] (RL.ofBlk (f := strC) (g := w3.heap.size) [r] ((Blk.newAt (w := w3) rfl).drew) (by show 1 ≤ maxLen; decide)) (by rfl) (by (try simp); omega) (by (try simp); unfold maxLen; omega) (by (try simp); omega) ?_; intro v4 w4 hown4 hb4 _; obtain ⟨a4, cap4, rfl⟩ := hown4.form; have k4 := ((k2.alloc _).drew).below hb4 (by omega); have f5 := k4.cell 0; simp only [List.getElem?_toArray, List.getElem?_cons_zero, List.getElem?_cons_succ] at f5; have f6 := k4.free 0))
        all_goals
          go_wp2
          go_roundw
          case rel =>
            rw [len1] at hown4
            exact ⟨k + 1, by omega, by go_num, _, by rw [hM.out]; exact hown4.setCell (p := ⟨w1.heap.size, 0, none⟩) (by simp) _, ((k0.alloc _).drew.below hb4 (by omega)).set_other _ _ (by simp; omega), ((k1.alloc _).drew.below hb4 (by omega)).set_other _ _ (by simp; omega), k4.set 0 _, ((allocB hnx3 (by omega) _).drew.trans (hb4.mono (by omega))).setCell (by simp; omega) _⟩
          case measure => simp [intOf]; omega
      · have hkM : List.take k M = M := List.take_of_length_le (by rw [hmn.out]; omega)
        rw [hkM] at hown k2 c4
        clear hkM
        have f1 := k1.free 0
        have f2 := k1.free 1
        go_wp2
        have hmm := hmn.out
        have hF : Below w.heap.size w ((wr.setCell ⟨w.heap.size + 1, 0, none⟩ (.slice ao M.length capo)).setCell ⟨w.heap.size + 1, 1, none⟩ (.slice none 0 0)) := (hnx.setCell (by simp) _).setCell (by simp) _
        have ho := (hown.setCell (p := ⟨w.heap.size + 1, 0, none⟩) (by simp; omega) (.slice ao M.length capo)).setCell (p := ⟨w.heap.size + 1, 1, none⟩) (by simp; omega) (.slice none 0 0)
        refine bodyPost_ret (v := .tuple #[.agg #[.slice ao M.length capo, .slice none 0 0], .int .i64 0]) (by simp [results, Try.results48, go_sem, c2, c3]) rfl ⟨_, rfl, ⟨_, _, rfl, ho.reads, RL.nil _ _, by rw [hmm]; exact n1, by simp⟩, hF⟩
  · have he : flushE d = 2 := by unfold flushE; rw [if_neg hg]
    have hv : flushD d = d := by unfold flushD; rw [if_neg hg]
    rw [hv, he]
    rw [Bool.not_eq_true _ |>.mp hg] at hG
    clear hg hv he hs hw
    replace hG := hid hG
    go_enter Try.func48, Try.ntmps48
    go_wp2_with (go_at_call 54; refine (hG.out _ (hd2.out.below (by repeat (first | exact Below.refl _ _ | with_reducible assumption | (refine allocB ?_ (by first | omega | (simp; done) | (simp; omega)) _) | (refine Below.setCell ?_ (by first | omega | (simp; done) | (simp; omega)) _) | refine Below.drew ?_ | (refine Below.trans ?_ (Below.mono (by with_reducible assumption) (by first | omega | (simp; done) | (simp; omega)))))))).mono ?_; rintro e w1 ⟨rfl, hb1⟩; obtain ⟨hbc, hbf⟩ := bcell hb1; have hbz := hb1.size; try simp only [World.size_alloc, World.size_setCell, World.size_drew] at hbz; have hz0 := Nat.lt_of_lt_of_le (n := w.heap.size) (by omega) hbz; have hz1 := Nat.lt_of_lt_of_le (n := w.heap.size + 1) (by omega) hbz)
    exact bodyPost_ret (v := .tuple #[.agg #[.slice a d.safe.length cap, .slice b d.writes.length bcap], .int .i64 2]) (by simp [results, Try.results48, go_sem, hbc]) rfl ⟨_, rfl, hd2.out.below (by repeat (first | exact Below.refl _ _ | with_reducible assumption | (refine allocB ?_ (by first | omega | (simp; done) | (simp; omega)) _) | (refine Below.setCell ?_ (by first | omega | (simp; done) | (simp; omega)) _) | refine Below.drew ?_ | (refine Below.trans ?_ (Below.mono (by with_reducible assumption) (by first | omega | (simp; done) | (simp; omega)))))), by repeat (first | exact Below.refl _ _ | with_reducible assumption | (refine allocB ?_ (by first | omega | (simp; done) | (simp; omega)) _) | (refine Below.setCell ?_ (by first | omega | (simp; done) | (simp; omega)) _) | refine Below.drew ?_ | (refine Below.trans ?_ (Below.mono (by with_reducible assumption) (by first | omega | (simp; done) | (simp; omega)))))⟩
end Go.Proofs.Ytjhmfljlclajnaa
