/- The walks of the ring that give back; whether the ring answers at all. -/
import Derived.Test.YtjhmfljlclajnaaRing2
namespace Go.Proofs.Ytjhmfljlclajnaa
open Go.RowKit Wb
set_option linter.unusedVariables false
set_option linter.unusedSimpArgs false
set_option maxRecDepth 100000

theorem ring_Tail (r : Ring) (w : World) (h0 : 0 ≤ r.head) (h1 : r.head < 24) (h2 : 0 ≤ r.used) (h3 : r.used ≤ 24) :
    Calls Try.prog 21 #[r.val] w fun e w' => e = .returned (.int .i64 ((r.head - r.used + 24) % 24)) ∧ Below w.heap.size w w' := by
  obtain ⟨p, u⟩ := r
  unfold Ring.val
  dsimp only at h0 h1 h2 h3 ⊢
  have q : ((p - u).tmod 24 + 24) % 24 = (p - u + 24) % 24 ∧ -23 ≤ (p - u).tmod 24 ∧ (p - u).tmod 24 ≤ 23 := by
    by_cases hlt : u ≤ p
    · rw [Int.tmod_eq_emod_of_nonneg (by omega)]; omega
    · have e : p - u = -(u - p) := by omega
      rw [e, Int.neg_tmod, Int.tmod_eq_emod_of_nonneg (by omega)]; omega
  obtain ⟨q1, q2, q3⟩ := q
  replace q1 := hid q1
  go_enter Try.func21, Try.ntmps21
  go_wp2
  go_ret
  exact ⟨ret_i q1.out, (Below.refl _ _).alloc (Nat.le_refl _) _⟩

theorem ring_Give (r : Ring) (n : Int) (w : World) :
    Calls Try.prog 16 #[r.val, .int .i64 n] w fun e w' =>
      e = .returned (.tuple #[(giveR r n).val, .int .i64 (giveE r n)]) ∧ Below w.heap.size w w' := by
  obtain ⟨p, u⟩ := r
  have hG := fun w => ring_Good ⟨p, u⟩ w
  have hgi := goodR_iff ⟨p, u⟩
  by_cases hb : goodR ⟨p, u⟩ = false ∨ n < 0 ∨ n > u
  · have e1 : giveE ⟨p, u⟩ n = 2 := by unfold giveE; rw [if_pos hb]
    have e2 : giveR ⟨p, u⟩ n = ⟨p, u⟩ := by unfold giveR; rw [e1]; rfl
    rw [e1, e2]
    clear hgi e1 e2
    generalize goodR ⟨p, u⟩ = g at *
    replace hG := hid hG
    unfold Ring.val at *
    dsimp only at *
    cases g
    · clear hb
      go_enter Try.func16, Try.ntmps16
      go_wp2_with (go_at_call 18; refine (hG.out _).mono ?_; rintro e w1 ⟨rfl, hb1⟩; obtain ⟨hbc, hbf⟩ := bcell hb1; have hbz := hb1.size; try simp only [World.size_alloc, World.size_setCell, World.size_drew] at hbz; have hz0 := Nat.lt_of_lt_of_le (n := w.heap.size) (by omega) hbz; have hz1 := Nat.lt_of_lt_of_le (n := w.heap.size + 1) (by omega) hbz)
      exact bodyPost_ret (v := .tuple #[.agg #[.int .i64 p, .int .i64 u], .int .i64 2]) (by simp [results, Try.results16, go_sem, hbc]) rfl ⟨rfl, by repeat (first | exact Below.refl _ _ | with_reducible assumption | (refine allocB ?_ (by first | omega | (simp; done) | (simp; omega)) _) | (refine Below.setCell ?_ (by first | omega | (simp; done) | (simp; omega)) _) | refine Below.drew ?_ | (refine Below.trans ?_ (Below.mono (by with_reducible assumption) (by first | omega | (simp; done) | (simp; omega)))))⟩
    · replace hb : n < 0 ∨ u < n := by simpa using hb
      by_cases hn : n < 0
      all_goals
        go_enter Try.func16, Try.ntmps16
        go_wp2_with (go_at_call 18; refine (hG.out _).mono ?_; rintro e w1 ⟨rfl, hb1⟩; obtain ⟨hbc, hbf⟩ := bcell hb1; have hbz := hb1.size; try simp only [World.size_alloc, World.size_setCell, World.size_drew] at hbz; have hz0 := Nat.lt_of_lt_of_le (n := w.heap.size) (by omega) hbz; have hz1 := Nat.lt_of_lt_of_le (n := w.heap.size + 1) (by omega) hbz)
        exact bodyPost_ret (v := .tuple #[.agg #[.int .i64 p, .int .i64 u], .int .i64 2]) (by simp [results, Try.results16, go_sem, hbc]) rfl ⟨rfl, by repeat (first | exact Below.refl _ _ | with_reducible assumption | (refine allocB ?_ (by first | omega | (simp; done) | (simp; omega)) _) | (refine Below.setCell ?_ (by first | omega | (simp; done) | (simp; omega)) _) | refine Below.drew ?_ | (refine Below.trans ?_ (Below.mono (by with_reducible assumption) (by first | omega | (simp; done) | (simp; omega)))))⟩
  · have e1 : giveE ⟨p, u⟩ n = 0 := by unfold giveE; rw [if_neg hb]
    have e2 : giveR ⟨p, u⟩ n = ⟨p, u - n⟩ := by unfold giveR; rw [e1]; rfl
    rw [e1, e2]
    obtain ⟨hg, hn, hn2⟩ : goodR ⟨p, u⟩ = true ∧ 0 ≤ n ∧ n ≤ u := by simpa using hb
    obtain ⟨g1, g2, g3, g4⟩ := hgi.1 hg
    dsimp only at g1 g2 g3 g4
    rw [hg] at hG
    replace hG := hid hG
    clear hgi hb hg e1 e2
    unfold Ring.val at *
    dsimp only at *
    go_enter Try.func16, Try.ntmps16
    go_wp2_with ((go_at_call 18; refine (hG.out _).mono ?_; rintro e w1 ⟨rfl, hb1⟩; obtain ⟨hbc, hbf⟩ := bcell hb1; have hbz := hb1.size; try simp only [World.size_alloc, World.size_setCell, World.size_drew] at hbz; have hz0 := Nat.lt_of_lt_of_le (n := w.heap.size) (by omega) hbz; have hz1 := Nat.lt_of_lt_of_le (n := w.heap.size + 1) (by omega) hbz); have c0 : w1.cell? ⟨w.heap.size, 0, none⟩ = some (.int .i64 p) := Blk.cell (((Blk.new w _ _).alloc _).step hb1) 0; have c1 : w1.cell? ⟨w.heap.size, 1, none⟩ = some (.int .i64 u) := Blk.cell (((Blk.new w _ _).alloc _).step hb1) 1; have c2 : w1.cell? ⟨w.heap.size + 1, 0, none⟩ = some (.int .i64 0) := Blk.cell ((Blk.newAt (w := w.alloc _) (by simp)).step hb1) 0; have c3 : w1.cell? ⟨w.heap.size + 1, 1, none⟩ = some (.int .i64 0) := Blk.cell ((Blk.newAt (w := w.alloc _) (by simp)).step hb1) 1; clear hbc)
    exact bodyPost_ret (v := .tuple #[.agg #[.int .i64 p, .int .i64 (u - n)], .int .i64 0]) (by simp [results, Try.results16, go_sem, c0, c1, c2, c3, hbf]) rfl ⟨rfl, by repeat (first | exact Below.refl _ _ | with_reducible assumption | (refine allocB ?_ (by first | omega | (simp; done) | (simp; omega)) _) | (refine Below.setCell ?_ (by first | omega | (simp; done) | (simp; omega)) _) | refine Below.drew ?_ | (refine Below.trans ?_ (Below.mono (by with_reducible assumption) (by first | omega | (simp; done) | (simp; omega)))))⟩

theorem ref_GiveRing (r : Ring) (n : Int) (w : World) :
    Calls Try.prog 17 #[r.val, .int .i64 n] w fun e w' =>
      e = .returned (.tuple #[(giveR r n).val, .int .i64 (giveE r n)]) ∧ Below w.heap.size w w' := by
  obtain ⟨p, u⟩ := r
  have hG := fun w => ring_GoodRing ⟨p, u⟩ w
  have hgi := goodR_iff ⟨p, u⟩
  by_cases hb : goodR ⟨p, u⟩ = false ∨ n < 0 ∨ n > u
  · have e1 : giveE ⟨p, u⟩ n = 2 := by unfold giveE; rw [if_pos hb]
    have e2 : giveR ⟨p, u⟩ n = ⟨p, u⟩ := by unfold giveR; rw [e1]; rfl
    rw [e1, e2]
    clear hgi e1 e2
    generalize goodR ⟨p, u⟩ = g at *
    replace hG := hid hG
    unfold Ring.val at *
    dsimp only at *
    cases g
    · clear hb
      go_enter Try.func17, Try.ntmps17
      go_wp2_with (go_at_call 19; refine (hG.out _).mono ?_; rintro e w1 ⟨rfl, hb1⟩; obtain ⟨hbc, hbf⟩ := bcell hb1; have hbz := hb1.size; try simp only [World.size_alloc, World.size_setCell, World.size_drew] at hbz; have hz0 := Nat.lt_of_lt_of_le (n := w.heap.size) (by omega) hbz; have hz1 := Nat.lt_of_lt_of_le (n := w.heap.size + 1) (by omega) hbz)
      exact bodyPost_ret (v := .tuple #[.agg #[.int .i64 p, .int .i64 u], .int .i64 2]) (by simp [results, Try.results17, go_sem, hbc]) rfl ⟨rfl, by repeat (first | exact Below.refl _ _ | with_reducible assumption | (refine allocB ?_ (by first | omega | (simp; done) | (simp; omega)) _) | (refine Below.setCell ?_ (by first | omega | (simp; done) | (simp; omega)) _) | refine Below.drew ?_ | (refine Below.trans ?_ (Below.mono (by with_reducible assumption) (by first | omega | (simp; done) | (simp; omega)))))⟩
    · replace hb : n < 0 ∨ u < n := by simpa using hb
      by_cases hn : n < 0
      all_goals
        go_enter Try.func17, Try.ntmps17
        go_wp2_with (go_at_call 19; refine (hG.out _).mono ?_; rintro e w1 ⟨rfl, hb1⟩; obtain ⟨hbc, hbf⟩ := bcell hb1; have hbz := hb1.size; try simp only [World.size_alloc, World.size_setCell, World.size_drew] at hbz; have hz0 := Nat.lt_of_lt_of_le (n := w.heap.size) (by omega) hbz; have hz1 := Nat.lt_of_lt_of_le (n := w.heap.size + 1) (by omega) hbz)
        exact bodyPost_ret (v := .tuple #[.agg #[.int .i64 p, .int .i64 u], .int .i64 2]) (by simp [results, Try.results17, go_sem, hbc]) rfl ⟨rfl, by repeat (first | exact Below.refl _ _ | with_reducible assumption | (refine allocB ?_ (by first | omega | (simp; done) | (simp; omega)) _) | (refine Below.setCell ?_ (by first | omega | (simp; done) | (simp; omega)) _) | refine Below.drew ?_ | (refine Below.trans ?_ (Below.mono (by with_reducible assumption) (by first | omega | (simp; done) | (simp; omega)))))⟩
  · have e1 : giveE ⟨p, u⟩ n = 0 := by unfold giveE; rw [if_neg hb]
    have e2 : giveR ⟨p, u⟩ n = ⟨p, u - n⟩ := by unfold giveR; rw [e1]; rfl
    rw [e1, e2]
    obtain ⟨hg, hn, hn2⟩ : goodR ⟨p, u⟩ = true ∧ 0 ≤ n ∧ n ≤ u := by simpa using hb
    obtain ⟨g1, g2, g3, g4⟩ := hgi.1 hg
    dsimp only at g1 g2 g3 g4
    rw [hg] at hG
    replace hG := hid hG
    clear hgi hb hg e1 e2
    unfold Ring.val at *
    dsimp only at *
    go_enter Try.func17, Try.ntmps17
    go_wp2_with ((go_at_call 19; refine (hG.out _).mono ?_; rintro e w1 ⟨rfl, hb1⟩; obtain ⟨hbc, hbf⟩ := bcell hb1; have hbz := hb1.size; try simp only [World.size_alloc, World.size_setCell, World.size_drew] at hbz; have hz0 := Nat.lt_of_lt_of_le (n := w.heap.size) (by omega) hbz; have hz1 := Nat.lt_of_lt_of_le (n := w.heap.size + 1) (by omega) hbz); have c0 : w1.cell? ⟨w.heap.size, 0, none⟩ = some (.int .i64 p) := Blk.cell (((Blk.new w _ _).alloc _).step hb1) 0; have c1 : w1.cell? ⟨w.heap.size, 1, none⟩ = some (.int .i64 u) := Blk.cell (((Blk.new w _ _).alloc _).step hb1) 1; have c2 : w1.cell? ⟨w.heap.size + 1, 0, none⟩ = some (.int .i64 0) := Blk.cell ((Blk.newAt (w := w.alloc _) (by simp)).step hb1) 0; have c3 : w1.cell? ⟨w.heap.size + 1, 1, none⟩ = some (.int .i64 0) := Blk.cell ((Blk.newAt (w := w.alloc _) (by simp)).step hb1) 1; clear hbc)
    exact bodyPost_ret (v := .tuple #[.agg #[.int .i64 p, .int .i64 (u - n)], .int .i64 0]) (by simp [results, Try.results17, go_sem, c0, c1, c2, c3, hbf]) rfl ⟨rfl, by repeat (first | exact Below.refl _ _ | with_reducible assumption | (refine allocB ?_ (by first | omega | (simp; done) | (simp; omega)) _) | (refine Below.setCell ?_ (by first | omega | (simp; done) | (simp; omega)) _) | refine Below.drew ?_ | (refine Below.trans ?_ (Below.mono (by with_reducible assumption) (by first | omega | (simp; done) | (simp; omega)))))⟩

end Go.Proofs.Ytjhmfljlclajnaa
