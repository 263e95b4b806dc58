/- The walk of DecodeMark. -/
import Derived.Test.YtjhmfljlclajnabDecR
import Derived.Test.YtjhmfljlclajnabStampR3
namespace Go.Proofs.Ytjhmfljlclajnab
open Go.RowKit Wb
set_option linter.unusedVariables false
set_option linter.unusedSimpArgs false
set_option maxRecDepth 100000
set_option maxHeartbeats 16000000
def seqN (s : ByteArray) : Nat → Int
  | 0 => 0
  | k + 1 => 256 * seqN s k + nb s (5 + k)
theorem seqN_bd (s : ByteArray) : ∀ k, k ≤ 4 → 0 ≤ seqN s k ∧ seqN s k < 4294967296 := by
  have h5 := nb_nonneg s 5; have h6 := nb_nonneg s 6; have h7 := nb_nonneg s 7; have h8 := nb_nonneg s 8
  have l5 := nb_lt s 5; have l6 := nb_lt s 6; have l7 := nb_lt s 7; have l8 := nb_lt s 8
  intro k hk
  match k, hk with
  | 0, _ => simp [seqN]
  | 1, _ => simp only [seqN, Nat.reduceAdd, Nat.add_zero]; omega
  | 2, _ => simp only [seqN, Nat.reduceAdd, Nat.add_zero]; omega
  | 3, _ => simp only [seqN, Nat.reduceAdd, Nat.add_zero]; omega
  | 4, _ => simp only [seqN, Nat.reduceAdd, Nat.add_zero]; omega
theorem seqN_4 (s : ByteArray) : seqN s 4 = seqOf s := by simp only [seqN, seqOf, Nat.reduceAdd, Nat.add_zero]; omega

/-- What holds behind the switch: the mark's block, and where its bytes end. -/

theorem ref_Decode_no (s : ByteArray) (w : World) (hs : ¬ okS s) (hz : s.size ≤ 9223372036854775807) :
    Calls Try.prog 58 #[.string s] w fun e w' => ∃ v, e = .returned (.tuple #[v, .int .i64 (decE s)]) ∧ OMark w.heap.size w' v (decM s) ∧ Below w.heap.size w w' := by
  have hd : ¬ decOk s := fun h => hs h.1
  obtain ⟨dM, dE⟩ := dec_no hd
  rw [dM, dE]
  have hP := hid (fun w' => OMark.plain w.heap.size w' 0 0 0)
  have hB := hid (fun w => ref_bad w)
  have kr := Blk.new w #[.int .i64 0, .int .i64 0, .int .i64 0, .slice none 0 0, .slice none 0 0] 38
  by_cases h1 : s.size = 32
  · have e1 : ((s.size : Int) != 32) = false := by rw [h1]; rfl
    have h2 : isEsc s = false := decide_eq_false fun hh => hs ⟨h1, hh⟩
    have e2 := take_isEsc s
    rw [h2] at e2
    have h4 : 4 ≤ s.size := by omega
    clear hs hd dM dE h2 h1
    go_enter Try.func58, Try.ntmps58
    go_wp2_with (go_at_call 81; go_loud (refine (hB.out _).mono ?_; rintro e w9 ⟨rfl, hb9⟩; replace kr := (by with_reducible (first | exact Blk.step kr hb9 | exact Blk.step (Blk.alloc kr _) hb9)); have nx9 := (by with_reducible (first | exact bgo nx hb9 | exact bgo (bal (b0 w) _) hb9)); have r0 := kr.cell 0; have r1 := kr.cell 1; have r2 := kr.cell 2; have r3 := kr.cell 3; have r4 := kr.cell 4; have z0 := kr.free 0; have z1 := kr.free 1; have z2 := kr.free 2; have z3 := kr.free 3; have z4 := kr.free 4; simp only [List.getElem?_toArray, List.getElem?_cons_zero, List.getElem?_cons_succ] at r0 r1 r2 r3 r4))
    exact bodyPost_ret (v := .tuple #[.agg #[.int .i64 0, .int .i64 0, .int .i64 0, .slice none 0 0, .slice none 0 0], .int .i64 1]) (by simp [results, Try.results58, go_sem, r0, r1, r2, r3, r4]) rfl ⟨_, rfl, hP.out _, ((((nx9.setCell (by simp) _).setCell (by simp) _).setCell (by simp) _).setCell (by simp) _).setCell (by simp) _⟩
  · have e1 : ((s.size : Int) != 32) = true := bne_iff_ne.2 (by omega)
    clear hs hd dM dE h1
    go_enter Try.func58, Try.ntmps58
    go_wp2_with (go_at_call 81; go_loud (refine (hB.out _).mono ?_; rintro e w9 ⟨rfl, hb9⟩; replace kr := (by with_reducible (first | exact Blk.step kr hb9 | exact Blk.step (Blk.alloc kr _) hb9)); have nx9 := (by with_reducible (first | exact bgo nx hb9 | exact bgo (bal (b0 w) _) hb9)); have r0 := kr.cell 0; have r1 := kr.cell 1; have r2 := kr.cell 2; have r3 := kr.cell 3; have r4 := kr.cell 4; have z0 := kr.free 0; have z1 := kr.free 1; have z2 := kr.free 2; have z3 := kr.free 3; have z4 := kr.free 4; simp only [List.getElem?_toArray, List.getElem?_cons_zero, List.getElem?_cons_succ] at r0 r1 r2 r3 r4))
    exact bodyPost_ret (v := .tuple #[.agg #[.int .i64 0, .int .i64 0, .int .i64 0, .slice none 0 0, .slice none 0 0], .int .i64 1]) (by simp [results, Try.results58, go_sem, r0, r1, r2, r3, r4]) rfl ⟨_, rfl, hP.out _, ((((nx9.setCell (by simp) _).setCell (by simp) _).setCell (by simp) _).setCell (by simp) _).setCell (by simp) _⟩
end Go.Proofs.Ytjhmfljlclajnab
