/- The walks of the laws FormOnly and FormBack. -/
import Derived.Test.YtjhmfljlclajnaaDec2
import Derived.Test.YtjhmfljlclajnaaDec3
import Derived.Test.YtjhmfljlclajnaaSame
namespace Go.Proofs.Ytjhmfljlclajnaa
open Go.RowKit Wb
set_option linter.unusedVariables false
set_option linter.unusedSimpArgs false
set_option maxRecDepth 100000
set_option maxHeartbeats 2000000

theorem stamp_Decode (s : ByteArray) (w : World) (hz : s.size ≤ 9223372036854775807) :
    Calls Try.prog 56 #[.string s] w fun e w' => ∃ v, e = .returned (.tuple #[v, .int .i64 (decE s)]) ∧ RMark w' v (decM s) ∧ Below w.heap.size w w' := by
  by_cases h : okS s
  · exact (stamp_Decode_ok s w h).mono fun e w' ⟨v, he, hm, hb⟩ => ⟨v, he, hm.reads, hb⟩
  · exact (stamp_Decode_no s w h hz).mono fun e w' ⟨v, he, hm, hb⟩ => ⟨v, he, hm.reads, hb⟩

theorem law_FormOnly (s : ByteArray) (w : World) (hz : s.size ≤ 9223372036854775807) :
    Calls Try.prog 13 #[.string s] w fun e w' => e = .returned (.bool true) ∧ Below w.heap.size w w' := by
  have hD := fun w => stamp_Decode s w hz
  have hM := fun w => keep_marks w
  have hS := fun v1 v2 w h1 h2 => keep_sameMark zeroM v1 v2 w h1 h2
  have hP := hid (fun w => zero_reads w)
  by_cases hd : decOk s
  · obtain ⟨dM, dE, f1, f2⟩ := dec_yes hd
    have hE := fun v w (hm : RMark w v (rawM s)) => stamp_Encode (rawM s) v w hm
    rw [dM, dE] at hD
    rw [f1, f2] at hE
    clear dM dE f1 f2 hd hz
    generalize rawM s = M at *
    replace hD := hid hD; replace hM := hid hM; replace hS := hid hS; replace hE := hid hE
    go_enter Try.func13, Try.ntmps13
    go_wp2_with (first
      | (go_at_call 56; go_loud (refine (hD.out _).mono ?_; rintro e w1 ⟨v1, rfl, h1, hb1⟩; have r1 := hid h1; obtain ⟨vt, vb, rfl, ht, hb, n1, n2⟩ := h1; obtain ⟨a, cap, rfl, _⟩ := ht.form; obtain ⟨b, bcap, rfl, _⟩ := hb.form; have nx := bgo (b0 w) hb1))
      | (go_at_call 59; go_loud (refine (hM.out _).mono ?_; rintro e w2 ⟨rfl, hb2⟩; have km : Blk w2 w1.heap.size #[.int .i64 M.kind, .int .i64 M.seq, .int .i64 M.at_, .slice a M.tags.length cap, .slice b M.blocks.length bcap] 43 := (Blk.new w1 _ _).step hb2; have m0 := km.cell 0; have m1 := km.cell 1; have m2 := km.cell 2; have m3 := km.cell 3; have m4 := km.cell 4; simp only [List.getElem?_toArray, List.getElem?_cons_zero, List.getElem?_cons_succ] at m0 m1 m2 m3 m4; have nx2 := bgo (bal nx _) hb2; have r2 := hid (r1.out.below (bgo (bal (b0 w1) _) hb2))))
      | (go_at_call 29; go_loud (refine (hE.out _ _ r2.out).mono ?_; rintro e w3 ⟨rfl, hb3⟩; have nx3 := bgo nx2 hb3)))
    go_ret
    exact ⟨rfl, nx3⟩
  · obtain ⟨dM, dE⟩ := dec_no hd
    rw [dM, dE] at hD
    clear dM dE hd hz
    replace hD := hid hD; replace hM := hid hM; replace hS := hid hS
    go_enter Try.func13, Try.ntmps13
    go_wp2_with (first
      | (go_at_call 56; go_loud (refine (hD.out _).mono ?_; rintro e w1 ⟨v1, rfl, h1, hb1⟩; have r1 := hid h1; obtain ⟨vt, vb, rfl, ht, hb, n1, n2⟩ := h1; obtain ⟨a, cap, rfl, _⟩ := ht.form; obtain ⟨b, bcap, rfl, _⟩ := hb.form; have nx := bgo (b0 w) hb1))
      | (go_at_call 60; go_loud (refine (hS.out _ _ _ (r1.out.below (bal (b0 w1) _)) (hP.out _)).mono ?_; rintro e w2 ⟨rfl, hb2⟩; have nx2 := bgo (bal nx _) hb2))
      | (go_at_call 59; go_loud (refine (hM.out _).mono ?_; rintro e w3 ⟨rfl, hb3⟩; have nx3 := bgo nx2 hb3)))
    go_ret
    exact ⟨rfl, nx3⟩

theorem law_FormBack (m : Mrk) (v : Value) (w : World) (hm : RMark w v m) :
    Calls Try.prog 12 #[v] w fun e w' => e = .returned (.bool true) ∧ Below w.heap.size w w' := by
  have hE := fun w (hh : RMark w v m) => stamp_Encode m v w hh
  have hG := fun w (hh : RMark w v m) => stamp_Good m v w hh
  have hM := fun w => keep_marks w
  have hS := fun v1 v2 w h1 h2 => keep_sameMark m v1 v2 w h1 h2
  have hm2 := hid hm
  obtain ⟨vt, vb, rfl, ht, hb, n1, n2⟩ := hm
  obtain ⟨a, cap, rfl, _⟩ := ht.form
  obtain ⟨b, bcap, rfl, _⟩ := hb.form
  clear ht hb
  have k0 := Blk.new w #[.int .i64 m.kind, .int .i64 m.seq, .int .i64 m.at_, .slice a m.tags.length cap, .slice b m.blocks.length bcap] 43
  by_cases h0 : markE m = 0
  · obtain ⟨_, dM, dE⟩ := dec_enc h0
    have hms : markS m = str (markL m) := if_pos h0
    have hsz : (str (markL m)).size = 32 := by rw [str_size, markL_len]
    have hD := fun w => stamp_Decode (str (markL m)) w (by rw [hsz]; decide)
    rw [dM, dE] at hD
    rw [hms, h0] at hE
    rw [h0] at hG
    have e1 : (((str (markL m)).size : Int) == 32) = true := by rw [hsz]; rfl
    clear dM dE hms h0 hsz
    generalize str (markL m) = s at *
    replace hD := hid hD; replace hM := hid hM; replace hS := hid hS; replace hE := hid hE; replace hG := hid hG
    go_enter Try.func12, Try.ntmps12
    go_wp2_with (first
      | (go_at_call 29; go_loud (refine (hE.out _ (hm2.out.below (bal (b0 w) _))).mono ?_; rintro e w1 ⟨rfl, hb1⟩; (try clear k0_0); (try clear k0_1); (try clear k0_2); (try clear k0_3); (try clear k0_4); replace k0 := (by with_reducible (first | exact Blk.step k0 hb1 | exact Blk.step (Blk.alloc k0 _) hb1 | exact Blk.step (Blk.alloc (Blk.alloc k0 _) _) hb1)); have k0_0 := k0.cell 0; have k0_1 := k0.cell 1; have k0_2 := k0.cell 2; have k0_3 := k0.cell 3; have k0_4 := k0.cell 4; simp only [List.getElem?_toArray, List.getElem?_cons_zero, List.getElem?_cons_succ] at k0_0 k0_1 k0_2 k0_3 k0_4; have nx := bgo (bal (b0 w) _) hb1; have l0 := k0.lt))
      | (go_at_call 59; go_loud (refine (hM.out _).mono ?_; rintro e w2 ⟨rfl, hb2⟩; (try clear k0_0); (try clear k0_1); (try clear k0_2); (try clear k0_3); (try clear k0_4); replace k0 := (by with_reducible (first | exact Blk.step k0 hb2 | exact Blk.step (Blk.alloc k0 _) hb2 | exact Blk.step (Blk.alloc (Blk.alloc k0 _) _) hb2)); have k0_0 := k0.cell 0; have k0_1 := k0.cell 1; have k0_2 := k0.cell 2; have k0_3 := k0.cell 3; have k0_4 := k0.cell 4; simp only [List.getElem?_toArray, List.getElem?_cons_zero, List.getElem?_cons_succ] at k0_0 k0_1 k0_2 k0_3 k0_4; have nx2 := bgo nx hb2; have l0 := k0.lt))
      | (go_at_call 56; go_loud (refine (hD.out _).mono ?_; rintro e w3 ⟨v3, rfl, h3, hb3⟩; have r3 := hid h3; obtain ⟨vt3, vb3, rfl, ht3, hbb3, n13, n23⟩ := h3; obtain ⟨a3, cap3, rfl, _⟩ := ht3.form; obtain ⟨b3, bcap3, rfl, _⟩ := hbb3.form; (try clear k0_0); (try clear k0_1); (try clear k0_2); (try clear k0_3); (try clear k0_4); replace k0 := (by with_reducible (first | exact Blk.step k0 hb3 | exact Blk.step (Blk.alloc k0 _) hb3 | exact Blk.step (Blk.alloc (Blk.alloc k0 _) _) hb3)); have k0_0 := k0.cell 0; have k0_1 := k0.cell 1; have k0_2 := k0.cell 2; have k0_3 := k0.cell 3; have k0_4 := k0.cell 4; simp only [List.getElem?_toArray, List.getElem?_cons_zero, List.getElem?_cons_succ] at k0_0 k0_1 k0_2 k0_3 k0_4; have nx3 := bgo nx2 hb3; have l0 := k0.lt; clear ht3 hbb3))
      | (go_at_call 60; go_loud (refine (hS.out _ _ _ (hm2.out.below (bal nx3 _)) (r3.out.below (bal (b0 w3) _))).mono ?_; rintro e w4 ⟨rfl, hb4⟩; have nx4 := bgo (bal nx3 _) hb4)))
    go_ret
    exact ⟨rfl, nx4⟩
  · have hms : markS m = ⟨#[]⟩ := if_neg h0
    rw [hms] at hE
    have hne : (markE m != 0) = true := bne_iff_ne.2 h0
    generalize markE m = me at *
    clear h0 hms
    replace hM := hid hM; replace hS := hid hS; replace hE := hid hE; replace hG := hid hG
    go_enter Try.func12, Try.ntmps12
    go_wp2_with (first
      | (go_at_call 29; go_loud (refine (hE.out _ (hm2.out.below (bal (b0 w) _))).mono ?_; rintro e w1 ⟨rfl, hb1⟩; (try clear k0_0); (try clear k0_1); (try clear k0_2); (try clear k0_3); (try clear k0_4); replace k0 := (by with_reducible (first | exact Blk.step k0 hb1 | exact Blk.step (Blk.alloc k0 _) hb1 | exact Blk.step (Blk.alloc (Blk.alloc k0 _) _) hb1)); have k0_0 := k0.cell 0; have k0_1 := k0.cell 1; have k0_2 := k0.cell 2; have k0_3 := k0.cell 3; have k0_4 := k0.cell 4; simp only [List.getElem?_toArray, List.getElem?_cons_zero, List.getElem?_cons_succ] at k0_0 k0_1 k0_2 k0_3 k0_4; have nx := bgo (bal (b0 w) _) hb1; have l0 := k0.lt))
      | (go_at_call 32; go_loud (refine (hG.out _ (hm2.out.below nx)).mono ?_; rintro e w2 ⟨rfl, hb2⟩; have nx2 := bgo nx hb2))
      | (go_at_call 59; go_loud (refine (hM.out _).mono ?_; rintro e w3 ⟨rfl, hb3⟩; have nx3 := bgo nx2 hb3)))
    go_ret
    exact ⟨rfl, nx3⟩
end Go.Proofs.Ytjhmfljlclajnaa
