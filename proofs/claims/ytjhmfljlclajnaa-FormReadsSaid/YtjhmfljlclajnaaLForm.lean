/- The walk of the law FormReads. -/
import Derived.Test.YtjhmfljlclajnaaKForm
import Derived.Test.YtjhmfljlclajnaaDecRO
namespace Go.Proofs.Ytjhmfljlclajnaa
open Go.RowKit Wb
set_option linter.unusedVariables false
set_option linter.unusedSimpArgs false
set_option maxRecDepth 100000
set_option maxHeartbeats 2000000

theorem ref_Decode (s : ByteArray) (w : World) (hz : s.size ≤ 9223372036854775807) :
    Calls Try.prog 57 #[.string s] w fun e w' => ∃ v, e = .returned (.tuple #[v, .int .i64 (decE s)]) ∧ RMark w' v (decM s) ∧ Below w.heap.size w w' := by
  exact (ref_DecodeO s w hz).mono fun e w' ⟨v, he, hm, hb⟩ => ⟨v, he, hm.reads, hb⟩

theorem law_FormReads (s : ByteArray) (w : World) (hz : s.size ≤ 9223372036854775807) :
    Calls Try.prog 11 #[.string s] w fun e w' => e = .returned (.bool true) ∧ Below w.heap.size w w' := by
  have hD := fun w => stamp_Decode s w hz
  have hR := fun w => ref_Decode s w hz
  have hM := fun w => law_marks w
  have hS := fun v1 v2 w h1 h2 => ref_SameMark (decM s) v1 v2 w h1 h2
  generalize decM s = M at *
  generalize decE s = de at *
  clear hz
  replace hD := hid hD; replace hR := hid hR; replace hM := hid hM; replace hS := hid hS
  go_enter Try.func11, Try.ntmps11
  go_wp2_with (first
    | (go_at_call 56; go_loud (refine (hD.out _).mono ?_; rintro e w1 ⟨v1, rfl, h1, hb1⟩; have r1 := hid h1; obtain ⟨vt, vb, rfl, ht, hb, n1, n2⟩ := h1; obtain ⟨a, cap, rfl, _⟩ := ht.form; obtain ⟨b, bcap, rfl, _⟩ := hb.form; have nx := bgo (b0 w) hb1; have k0 := Blk.new w1 #[.int .i64 M.kind, .int .i64 M.seq, .int .i64 M.at_, .slice a M.tags.length cap, .slice b M.blocks.length bcap] 43; clear ht hb))
    | (go_at_call 57; go_loud (refine (hR.out _).mono ?_; rintro e w2 ⟨v2, rfl, h2, hb2⟩; have r2 := hid h2; obtain ⟨vt2, vb2, rfl, ht2, hb22, n12, n22⟩ := h2; obtain ⟨a2, cap2, rfl, _⟩ := ht2.form; obtain ⟨b2, bcap2, rfl, _⟩ := hb22.form; (try clear k0_0); (try clear k0_1); (try clear k0_2); (try clear k0_3); (try clear k0_4); replace k0 := (by with_reducible (first | exact Blk.step k0 hb2 | exact Blk.step (Blk.alloc k0 _) hb2 | exact Blk.step (Blk.alloc (Blk.alloc k0 _) _) hb2)); have k0_0 := k0.cell 0; have k0_1 := k0.cell 1; have k0_2 := k0.cell 2; have k0_3 := k0.cell 3; have k0_4 := k0.cell 4; simp only [List.getElem?_toArray, List.getElem?_cons_zero, List.getElem?_cons_succ] at k0_0 k0_1 k0_2 k0_3 k0_4; have l0 := k0.lt; replace r1 := hid (r1.out.below (bgo (bal (b0 w1) _) hb2)); have nx2 := bgo (bal nx _) hb2; clear ht2 hb22))
    | (go_at_call 58; go_loud (refine (hS.out _ _ _ (r1.out.below (bal (b0 w2) _)) (r2.out.below (bal (b0 w2) _))).mono ?_; rintro e w3 ⟨rfl, hb3⟩; have nx3 := bgo (bal nx2 _) hb3))
    | (go_at_call 34; go_loud (refine (hM.out _).mono ?_; rintro e w4 ⟨rfl, hb4⟩; have nx4 := bgo nx3 hb4)))
  go_ret
  exact ⟨rfl, nx4⟩
end Go.Proofs.Ytjhmfljlclajnaa
