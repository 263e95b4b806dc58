/- The walks of the ring that take places. -/
import Derived.Test.YtjhmfljlclajnaaRing
namespace Go.Proofs.Ytjhmfljlclajnaa
open Go.RowKit Wb
set_option linter.unusedVariables false
set_option linter.unusedSimpArgs false
set_option maxRecDepth 100000

theorem takeE_bad {r : Ring} {n : Int} (h : goodR r = false ∨ n < 0) : takeE r n = 2 := by unfold takeE; rw [if_pos h]
theorem takeE_full {r : Ring} {n : Int} (h : ¬ (goodR r = false ∨ n < 0)) (h2 : n > 24 - r.used) : takeE r n = 6 := by unfold takeE; rw [if_neg h, if_pos h2]
theorem takeE_ok {r : Ring} {n : Int} (h : ¬ (goodR r = false ∨ n < 0)) (h2 : ¬ n > 24 - r.used) : takeE r n = 0 := by unfold takeE; rw [if_neg h, if_neg h2]
theorem takeR_bad {r : Ring} {n : Int} (h : takeE r n ≠ 0) : takeR r n = r := by unfold takeR; rw [if_neg h]
theorem takeL_bad {r : Ring} {n : Int} (h : takeE r n ≠ 0) : takeL r n = [] := by unfold takeL; rw [if_neg h]
theorem takeR_ok {r : Ring} {n : Int} (h : takeE r n = 0) : takeR r n = ⟨(r.head + n) % 24, r.used + n⟩ := by unfold takeR; rw [if_pos h]
theorem takeL_ok {r : Ring} {n : Int} (h : takeE r n = 0) : takeL r n = places r.head n.toNat := by unfold takeL; rw [if_pos h]


theorem ring_Take (r : Ring) (n : Int) (w : World) :
    Calls Try.prog 14 #[r.val, .int .i64 n] w fun e w' =>
      ∃ v, e = .returned (.tuple #[(takeR r n).val, v, .int .i64 (takeE r n)]) ∧ Own intC w.heap.size 3 1 w' v (takeL r n) ∧ Below w.heap.size w w' := by
  obtain ⟨p, u⟩ := r
  have hG := fun w => ring_Good ⟨p, u⟩ w
  have hgi := goodR_iff ⟨p, u⟩
  by_cases hb : goodR ⟨p, u⟩ = false ∨ n < 0
  · rw [takeR_bad (by rw [takeE_bad hb]; decide), takeL_bad (by rw [takeE_bad hb]; decide), takeE_bad hb]
    clear hgi
    generalize goodR ⟨p, u⟩ = g at *
    replace hG := hid hG
    unfold Ring.val at *
    dsimp only at *
    cases g
    · clear hb
      go_enter Try.func14, Try.ntmps14
      go_wp2_with (go_at_call 18; refine (hG.out _).mono ?_; rintro e w1 ⟨rfl, hb1⟩; obtain ⟨hbc, hbf⟩ := bcell hb1; have hbz := hb1.size; try simp only [World.size_alloc, World.size_setCell, World.size_drew] at hbz; have hz0 := Nat.lt_of_lt_of_le (n := w.heap.size) (by omega) hbz; have hz1 := Nat.lt_of_lt_of_le (n := w.heap.size + 1) (by omega) hbz)
      exact bodyPost_ret (v := .tuple #[.agg #[.int .i64 p, .int .i64 u], .slice none 0 0, .int .i64 2]) (by simp [results, Try.results14, go_sem, hbc]) rfl ⟨_, rfl, Own.nil _ _ _ _ _, by repeat (first | exact Below.refl _ _ | with_reducible assumption | (refine allocB ?_ (by first | omega | (simp; done) | (simp; omega)) _) | (refine Below.setCell ?_ (by first | omega | (simp; done) | (simp; omega)) _) | refine Below.drew ?_ | (refine Below.trans ?_ (Below.mono (by with_reducible assumption) (by first | omega | (simp; done) | (simp; omega)))))⟩
    · replace hb : n < 0 := by simpa using hb
      go_enter Try.func14, Try.ntmps14
      go_wp2_with (go_at_call 18; refine (hG.out _).mono ?_; rintro e w1 ⟨rfl, hb1⟩; obtain ⟨hbc, hbf⟩ := bcell hb1; have hbz := hb1.size; try simp only [World.size_alloc, World.size_setCell, World.size_drew] at hbz; have hz0 := Nat.lt_of_lt_of_le (n := w.heap.size) (by omega) hbz; have hz1 := Nat.lt_of_lt_of_le (n := w.heap.size + 1) (by omega) hbz)
      exact bodyPost_ret (v := .tuple #[.agg #[.int .i64 p, .int .i64 u], .slice none 0 0, .int .i64 2]) (by simp [results, Try.results14, go_sem, hbc]) rfl ⟨_, rfl, Own.nil _ _ _ _ _, by repeat (first | exact Below.refl _ _ | with_reducible assumption | (refine allocB ?_ (by first | omega | (simp; done) | (simp; omega)) _) | (refine Below.setCell ?_ (by first | omega | (simp; done) | (simp; omega)) _) | refine Below.drew ?_ | (refine Below.trans ?_ (Below.mono (by with_reducible assumption) (by first | omega | (simp; done) | (simp; omega)))))⟩
  · obtain ⟨hg, hn⟩ : goodR ⟨p, u⟩ = true ∧ 0 ≤ n := by simpa using hb
    obtain ⟨g1, g2, g3, g4⟩ := hgi.1 hg
    dsimp only at g1 g2 g3 g4
    rw [hg] at hG
    have hF := fun w => ring_Free ⟨p, u⟩ w g3 g4
    replace hG := hid hG
    replace hF := hid hF
    by_cases hs : n > 24 - u
    · rw [takeR_bad (by rw [takeE_full hb hs]; decide), takeL_bad (by rw [takeE_full hb hs]; decide), takeE_full hb hs]
      clear hgi hb hg
      unfold Ring.val at *
      dsimp only at *
      go_enter Try.func14, Try.ntmps14
      go_wp2_with (first | (go_at_call 18; refine (hG.out _).mono ?_; rintro e w1 ⟨rfl, hb1⟩; obtain ⟨hbc, hbf⟩ := bcell hb1; have hbz := hb1.size; try simp only [World.size_alloc, World.size_setCell, World.size_drew] at hbz; have hz0 := Nat.lt_of_lt_of_le (n := w.heap.size) (by omega) hbz; have hz1 := Nat.lt_of_lt_of_le (n := w.heap.size + 1) (by omega) hbz) | (go_at_call 20; refine (hF.out _).mono ?_; rintro e w2 ⟨rfl, hb1⟩; obtain ⟨hbc, hbf⟩ := bcell hb1; have hbz := hb1.size; try simp only [World.size_alloc, World.size_setCell, World.size_drew] at hbz; have hz0 := Nat.lt_of_lt_of_le (n := w.heap.size) (by omega) hbz; have hz1 := Nat.lt_of_lt_of_le (n := w.heap.size + 1) (by omega) hbz))
      exact bodyPost_ret (v := .tuple #[.agg #[.int .i64 p, .int .i64 u], .slice none 0 0, .int .i64 6]) (by simp [results, Try.results14, go_sem, *]) rfl ⟨_, rfl, Own.nil _ _ _ _ _, by repeat (first | exact Below.refl _ _ | with_reducible assumption | (refine allocB ?_ (by first | omega | (simp; done) | (simp; omega)) _) | (refine Below.setCell ?_ (by first | omega | (simp; done) | (simp; omega)) _) | refine Below.drew ?_ | (refine Below.trans ?_ (Below.mono (by with_reducible assumption) (by first | omega | (simp; done) | (simp; omega)))))⟩
    · rw [takeR_ok (takeE_ok hb hs), takeL_ok (takeE_ok hb hs), takeE_ok hb hs]
      clear hgi hb hg
      unfold Ring.val at *
      dsimp only at *
      go_enter Try.func14, Try.ntmps14
      go_wp2_with (first | (go_at_call 18; refine (hG.out _).mono ?_; rintro e w1 ⟨rfl, hb1⟩; obtain ⟨hbc, hbf⟩ := bcell hb1; have hbz := hb1.size; try simp only [World.size_alloc, World.size_setCell, World.size_drew] at hbz; have hz0 := Nat.lt_of_lt_of_le (n := w.heap.size) (by omega) hbz; have hz1 := Nat.lt_of_lt_of_le (n := w.heap.size + 1) (by omega) hbz) | (go_at_call 20; refine (hF.out _).mono ?_; rintro e w2 ⟨rfl, hb1⟩; obtain ⟨hbc, hbf⟩ := bcell hb1; have hbz := hb1.size; try simp only [World.size_alloc, World.size_setCell, World.size_drew] at hbz; have hz0 := Nat.lt_of_lt_of_le (n := w.heap.size) (by omega) hbz; have hz1 := Nat.lt_of_lt_of_le (n := w.heap.size + 1) (by omega) hbz))
      have k1 : Blk w2 w.heap.size #[.int .i64 p, .int .i64 u] 24 := (((Blk.new w _ _).alloc _).step (by assumption)).step (by assumption)
      have k2 : Blk w2 (w.heap.size + 1) #[.int .i64 0, .int .i64 0] 24 := ((Blk.newAt (w := w.alloc _) (by simp)).step (by assumption)).step (by assumption)
      have hw2 : Below w.heap.size w w2 := by repeat (first | exact Below.refl _ _ | with_reducible assumption | (refine allocB ?_ (by first | omega | (simp; done) | (simp; omega)) _) | (refine Below.setCell ?_ (by first | omega | (simp; done) | (simp; omega)) _) | refine Below.drew ?_ | (refine Below.trans ?_ (Below.mono (by with_reducible assumption) (by first | omega | (simp; done) | (simp; omega)))))
      clear hbc hbf
      go_loopw [7, 22] (fun l i wr => ∃ k : Nat, (k : Int) ≤ n ∧ i = .int .i64 k ∧ Own intC (w.heap.size + 2) 3 1 wr l (places p k) ∧ Blk wr w.heap.size #[.int .i64 ((p + k) % 24), .int .i64 u] 24 ∧ Blk wr (w.heap.size + 1) #[.int .i64 0, .int .i64 0] 24 ∧ Below w.heap.size w wr ∧ w.heap.size + 1 < wr.heap.size) (fun _ i _ => (n - intOf i).toNat)
      case atStart => exact ⟨0, by omega, rfl, Own.nil _ _ _ _ _, by rw [show (p + ((0 : Nat) : Int)) % 24 = p by omega]; exact k1, k2, hw2, by omega⟩
      case round =>
        obtain ⟨k, hk, rfl, hown, b1, b2, hnx, hz⟩ := hrel
        have hz0 : w.heap.size < wr.heap.size := by omega
        have c0 := b1.cell 0
        have c1 := b1.cell 1
        have f0 := b1.free 0
        have f1 := b1.free 1
        simp only [List.getElem?_toArray, List.getElem?_cons_zero, List.getElem?_cons_succ] at c0 c1
        by_cases hlt : (k : Int) < n
        · go_wp2_with (at_builtin; go_loud (refine wpList_push rfl _ _ _ rfl (w.heap.size + 2) _ 1 8 intC_flat elemInt hown rfl ((p + k) % 24) rfl rfl ?c1 ?c2 ?c3 ?c4))
          case c1 => rw [places_len]; omega
          case c2 => rw [places_len]; unfold maxLen; omega
          case c3 => omega
          case c4 =>
            intro v' w' hown' hbel hgrow
            rw [← places_succ] at hown'
            have b1' := b1.below hbel (by omega)
            have b2' := b2.below hbel (by omega)
            have hnx' := hnx.trans (hbel.mono (by omega))
            have hz' := hbel.size
            have c0' := b1'.cell 0
            have f0' := b1'.free 0
            simp only [List.getElem?_toArray, List.getElem?_cons_zero, List.getElem?_cons_succ] at c0'
            go_wp2
            go_roundw
            case rel => 
              refine ⟨k + 1, by omega, by go_num, hown'.setCell (by simp) _, ?_, b2'.set_other _ _ (by simp), hnx'.setCell (Nat.le_refl _) _, by simp; omega⟩
              have hbb := b1'.set 0 (.int .i64 ((p + k + 1) % 24))
              rw [show (p + ((k + 1 : Nat) : Int)) = p + k + 1 by omega]
              simpa using hbb
            case measure => simp [intOf]; omega
        · have c2 := b2.cell 0
          have c3 := b2.cell 1
          have f2 := b2.free 0
          have f3 := b2.free 1
          simp only [List.getElem?_toArray, List.getElem?_cons_zero, List.getElem?_cons_succ] at c2 c3
          go_wp2
          obtain rfl : n = k := by omega
          refine bodyPost_ret (v := .tuple #[.agg #[.int .i64 ((p + k) % 24), .int .i64 (u + k)], u7, .int .i64 0]) (by simp [results, Try.results14, go_sem, c0, c1, c2, c3]) rfl ⟨_, rfl, ?_, ?_⟩
          · rw [Int.toNat_natCast]
            exact (((hown.setCell (by simp) _).setCell (by simp) _).setCell (by simp) _).mono (by omega)
          · repeat (first | exact Below.refl _ _ | with_reducible assumption | (refine allocB ?_ (by first | omega | (simp; done) | (simp; omega)) _) | (refine Below.setCell ?_ (by first | omega | (simp; done) | (simp; omega)) _) | refine Below.drew ?_ | (refine Below.trans ?_ (Below.mono (by with_reducible assumption) (by first | omega | (simp; done) | (simp; omega)))))

theorem ref_TakeRing (r : Ring) (n : Int) (w : World) :
    Calls Try.prog 15 #[r.val, .int .i64 n] w fun e w' =>
      ∃ v, e = .returned (.tuple #[(takeR r n).val, v, .int .i64 (takeE r n)]) ∧ Own intC w.heap.size 3 1 w' v (takeL r n) ∧ Below w.heap.size w w' := by
  obtain ⟨p, u⟩ := r
  have hG := fun w => ring_GoodRing ⟨p, u⟩ w
  have hgi := goodR_iff ⟨p, u⟩
  by_cases hb : goodR ⟨p, u⟩ = false ∨ n < 0
  · rw [takeR_bad (by rw [takeE_bad hb]; decide), takeL_bad (by rw [takeE_bad hb]; decide), takeE_bad hb]
    clear hgi
    generalize goodR ⟨p, u⟩ = g at *
    replace hG := hid hG
    unfold Ring.val at *
    dsimp only at *
    cases g
    · clear hb
      go_enter Try.func15, Try.ntmps15
      go_wp2_with (go_at_call 19; refine (hG.out _).mono ?_; rintro e w1 ⟨rfl, hb1⟩; obtain ⟨hbc, hbf⟩ := bcell hb1; have hbz := hb1.size; try simp only [World.size_alloc, World.size_setCell, World.size_drew] at hbz; have hz0 := Nat.lt_of_lt_of_le (n := w.heap.size) (by omega) hbz; have hz1 := Nat.lt_of_lt_of_le (n := w.heap.size + 1) (by omega) hbz)
      exact bodyPost_ret (v := .tuple #[.agg #[.int .i64 p, .int .i64 u], .slice none 0 0, .int .i64 2]) (by simp [results, Try.results15, go_sem, hbc]) rfl ⟨_, rfl, Own.nil _ _ _ _ _, by repeat (first | exact Below.refl _ _ | with_reducible assumption | (refine allocB ?_ (by first | omega | (simp; done) | (simp; omega)) _) | (refine Below.setCell ?_ (by first | omega | (simp; done) | (simp; omega)) _) | refine Below.drew ?_ | (refine Below.trans ?_ (Below.mono (by with_reducible assumption) (by first | omega | (simp; done) | (simp; omega)))))⟩
    · replace hb : n < 0 := by simpa using hb
      go_enter Try.func15, Try.ntmps15
      go_wp2_with (go_at_call 19; refine (hG.out _).mono ?_; rintro e w1 ⟨rfl, hb1⟩; obtain ⟨hbc, hbf⟩ := bcell hb1; have hbz := hb1.size; try simp only [World.size_alloc, World.size_setCell, World.size_drew] at hbz; have hz0 := Nat.lt_of_lt_of_le (n := w.heap.size) (by omega) hbz; have hz1 := Nat.lt_of_lt_of_le (n := w.heap.size + 1) (by omega) hbz)
      exact bodyPost_ret (v := .tuple #[.agg #[.int .i64 p, .int .i64 u], .slice none 0 0, .int .i64 2]) (by simp [results, Try.results15, go_sem, hbc]) rfl ⟨_, rfl, Own.nil _ _ _ _ _, by repeat (first | exact Below.refl _ _ | with_reducible assumption | (refine allocB ?_ (by first | omega | (simp; done) | (simp; omega)) _) | (refine Below.setCell ?_ (by first | omega | (simp; done) | (simp; omega)) _) | refine Below.drew ?_ | (refine Below.trans ?_ (Below.mono (by with_reducible assumption) (by first | omega | (simp; done) | (simp; omega)))))⟩
  · obtain ⟨hg, hn⟩ : goodR ⟨p, u⟩ = true ∧ 0 ≤ n := by simpa using hb
    obtain ⟨g1, g2, g3, g4⟩ := hgi.1 hg
    dsimp only at g1 g2 g3 g4
    rw [hg] at hG
    replace hG := hid hG
    by_cases hs : n > 24 - u
    · rw [takeR_bad (by rw [takeE_full hb hs]; decide), takeL_bad (by rw [takeE_full hb hs]; decide), takeE_full hb hs]
      clear hgi hb hg
      unfold Ring.val at *
      dsimp only at *
      go_enter Try.func15, Try.ntmps15
      go_wp2_with (go_at_call 19; refine (hG.out _).mono ?_; rintro e w1 ⟨rfl, hb1⟩; obtain ⟨hbc, hbf⟩ := bcell hb1; have hbz := hb1.size; try simp only [World.size_alloc, World.size_setCell, World.size_drew] at hbz; have hz0 := Nat.lt_of_lt_of_le (n := w.heap.size) (by omega) hbz; have hz1 := Nat.lt_of_lt_of_le (n := w.heap.size + 1) (by omega) hbz)
      exact bodyPost_ret (v := .tuple #[.agg #[.int .i64 p, .int .i64 u], .slice none 0 0, .int .i64 6]) (by simp [results, Try.results15, go_sem, *]) rfl ⟨_, rfl, Own.nil _ _ _ _ _, by repeat (first | exact Below.refl _ _ | with_reducible assumption | (refine allocB ?_ (by first | omega | (simp; done) | (simp; omega)) _) | (refine Below.setCell ?_ (by first | omega | (simp; done) | (simp; omega)) _) | refine Below.drew ?_ | (refine Below.trans ?_ (Below.mono (by with_reducible assumption) (by first | omega | (simp; done) | (simp; omega)))))⟩
    · rw [takeR_ok (takeE_ok hb hs), takeL_ok (takeE_ok hb hs), takeE_ok hb hs]
      clear hgi hb hg
      unfold Ring.val at *
      dsimp only at *
      go_enter Try.func15, Try.ntmps15
      go_wp2_with (go_at_call 19; refine (hG.out _).mono ?_; rintro e w1 ⟨rfl, hb1⟩; obtain ⟨hbc, hbf⟩ := bcell hb1; have hbz := hb1.size; try simp only [World.size_alloc, World.size_setCell, World.size_drew] at hbz; have hz0 := Nat.lt_of_lt_of_le (n := w.heap.size) (by omega) hbz; have hz1 := Nat.lt_of_lt_of_le (n := w.heap.size + 1) (by omega) hbz)
      have k1 : Blk w1 w.heap.size #[.int .i64 p, .int .i64 u] 24 := ((Blk.new w _ _).alloc _).step (by assumption)
      have k2 : Blk w1 (w.heap.size + 1) #[.int .i64 0, .int .i64 0] 24 := (Blk.newAt (w := w.alloc _) (by simp)).step (by assumption)
      have hw2 : Below w.heap.size w w1 := by repeat (first | exact Below.refl _ _ | with_reducible assumption | (refine allocB ?_ (by first | omega | (simp; done) | (simp; omega)) _) | (refine Below.setCell ?_ (by first | omega | (simp; done) | (simp; omega)) _) | refine Below.drew ?_ | (refine Below.trans ?_ (Below.mono (by with_reducible assumption) (by first | omega | (simp; done) | (simp; omega)))))
      clear hbc hbf
      go_loopw [7, 8, 24] (fun l _ i wr => ∃ k : Nat, (k : Int) ≤ n ∧ i = .int .i64 k ∧ Own intC (w.heap.size + 2) 3 1 wr l (places p k) ∧ Blk wr w.heap.size #[.int .i64 p, .int .i64 u] 24 ∧ Blk wr (w.heap.size + 1) #[.int .i64 0, .int .i64 0] 24 ∧ Below w.heap.size w wr ∧ w.heap.size + 1 < wr.heap.size) (fun _ _ i _ => (n - intOf i).toNat)
      case atStart => exact ⟨0, by omega, rfl, Own.nil _ _ _ _ _, k1, k2, hw2, by omega⟩
      case round =>
        obtain ⟨k, hk, rfl, hown, b1, b2, hnx, hz⟩ := hrel
        have hz0 : w.heap.size < wr.heap.size := by omega
        have c0 := b1.cell 0
        have c1 := b1.cell 1
        have f0 := b1.free 0
        have f1 := b1.free 1
        have c2 := b2.cell 0
        have c3 := b2.cell 1
        have f2 := b2.free 0
        have f3 := b2.free 1
        simp only [List.getElem?_toArray, List.getElem?_cons_zero, List.getElem?_cons_succ] at c0 c1 c2 c3
        by_cases hlt : (k : Int) < n
        · go_wp2_with (at_builtin; refine wpList_push rfl _ _ _ rfl (w.heap.size + 2) _ 1 8 intC_flat elemInt hown rfl ((p + k) % 24) rfl rfl ?c1 ?c2 ?c3 ?c4)
          case c1 => rw [places_len]; omega
          case c2 => rw [places_len]; unfold maxLen; omega
          case c3 => omega
          case c4 =>
            intro v' w' hown' hbel hgrow
            rw [← places_succ] at hown'
            have b1' := b1.below hbel (by omega)
            have b2' := b2.below hbel (by omega)
            have hnx' := hnx.trans (hbel.mono (by omega))
            have hz' := hbel.size
            go_wp2
            go_roundw
            case rel => exact ⟨k + 1, by omega, by go_num, hown', b1', b2', hnx', by omega⟩
            case measure => simp [intOf]; omega
        · go_wp2
          obtain rfl : n = k := by omega
          refine bodyPost_ret (v := .tuple #[.agg #[.int .i64 ((p + k) % 24), .int .i64 (u + k)], u7, .int .i64 0]) (by simp [results, Try.results15, go_sem, c0, c1, c2, c3]) rfl ⟨_, rfl, ?_, ?_⟩
          · rw [Int.toNat_natCast]
            exact ((hown.setCell (by simp) _).setCell (by simp) _).mono (by omega)
          · repeat (first | exact Below.refl _ _ | with_reducible assumption | (refine allocB ?_ (by first | omega | (simp; done) | (simp; omega)) _) | (refine Below.setCell ?_ (by first | omega | (simp; done) | (simp; omega)) _) | refine Below.drew ?_ | (refine Below.trans ?_ (Below.mono (by with_reducible assumption) (by first | omega | (simp; done) | (simp; omega)))))

end Go.Proofs.Ytjhmfljlclajnaa
