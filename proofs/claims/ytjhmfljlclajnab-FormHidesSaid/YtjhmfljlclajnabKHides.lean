/- The walk of the law FormHides. -/
import Derived.Test.YtjhmfljlclajnabDec3
import Derived.Test.YtjhmfljlclajnabSame
namespace Wb
open Go Go.RowKit
theorem esc_size {s : ByteArray} (h : s.size = 32) : (escS s).size = 32 := by
  unfold escS
  by_cases hc : isEsc s = true
  · rw [if_pos hc, str_size]
    simp only [List.length_append, List.length_drop, ba_len, h]
    rfl
  · rw [if_neg hc]; exact h
theorem esc_not_ok (s : ByteArray) : ¬ okS (escS s) := by
  rintro ⟨_, h⟩
  unfold escS at h
  by_cases hc : isEsc s = true
  · rw [if_pos hc] at h
    have : ([0, 0, 0, 0] : List UInt8) = magic := by simpa [str] using h
    exact absurd this (by decide)
  · rw [if_neg hc] at h
    exact hc (decide_eq_true h)
end Wb
namespace Go.Proofs.Ytjhmfljlclajnab
open Go.RowKit Wb
set_option linter.unusedVariables false
set_option linter.unusedSimpArgs false
set_option maxRecDepth 100000
set_option maxHeartbeats 2000000

theorem unesc_esc {s : ByteArray} (h : s.size = 32) : unescS (escS s) (isEsc s) = s := by
  unfold unescS escS
  by_cases hc : isEsc s = true
  · have hx : 4 ≤ (str ([0, 0, 0, 0] ++ s.data.toList.drop 4)).size := by rw [str_size]; simp
    rw [hc, if_pos rfl, if_pos ⟨rfl, hx⟩]
    apply ba_ext
    have h4 : s.data.toList.take 4 = magic := of_decide_eq_true hc
    conv => rhs; rw [← List.take_append_drop 4 s.data.toList, h4]
    simp [str]
  · rw [if_neg (fun hh => hc hh.1), if_neg hc]
theorem law_FormHides (s : ByteArray) (w : World) (hz : s.size ≤ 9223372036854775807) :
    Calls Try.prog 4 #[.string s] w fun e w' => e = .returned (.bool true) ∧ Below w.heap.size w w' := by
  have hM := fun w => keep_marks w
  by_cases h1 : s.size = 32
  · have e1 : ((s.size : Int) != 32) = false := by rw [h1]; rfl
    have hxs := esc_size h1
    have hE := fun w => stamp_Escape s w hz
    have hD := fun w => stamp_Decode_no (escS s) w (esc_not_ok s) (by omega)
    rw [(dec_no (fun h => esc_not_ok s h.1 : ¬ decOk (escS s))).2] at hD
    have hU := fun w => stamp_Unescape (escS s) (isEsc s) w (by omega)
    rw [unesc_esc h1] at hU
    have ht := take_isEsc s
    have e2 : (((escS s).size : Int) == (s.size : Int)) = true := by rw [hxs, h1]; rfl
    have e3 : (s.toList == s.toList) = true := by simp
    have e4 : (isEsc s == isEsc s) = true := by simp
    have h4 : 4 ≤ s.size := by omega
    generalize escS s = x at *
    generalize isEsc s = b at *
    clear h1 hz hxs
    replace hM := hid hM; replace hE := hid hE; replace hD := hid hD; replace hU := hid hU
    go_enter Try.func4, Try.ntmps4
    go_wp2_with (first
      | (go_at_call 15; go_loud (refine (hE.out _).mono ?_; rintro e w1 ⟨rfl, hb1⟩; have nx1 := bgo (b0 w) hb1))
      | (go_at_call 16; go_loud (refine (hD.out _).mono ?_; rintro e w2 ⟨v2, rfl, h2, hb2⟩; obtain ⟨vt, vb, rfl, ht2, hbk, n1, n2⟩ := h2; obtain ⟨a2, c2, rfl, _⟩ := ht2.form; obtain ⟨b2, e2', rfl, _⟩ := hbk.form; have nx2 := bgo nx1 hb2; clear ht2 hbk))
      | (go_at_call 17; go_loud (refine (hU.out _).mono ?_; rintro e w3 ⟨rfl, hb3⟩; have nx3 := bgo (bal nx2 _) hb3))
      | (go_at_call 14; go_loud (refine (hM.out _).mono ?_; rintro e w4 ⟨rfl, hb4⟩; have nx4 := bgo nx3 hb4)))
    go_ret
    exact ⟨rfl, nx4⟩
  · have e1 : ((s.size : Int) != 32) = true := bne_iff_ne.2 (by omega)
    clear h1
    replace hM := hid hM
    go_enter Try.func4, Try.ntmps4
    go_wp2_with (go_at_call 14; go_loud (refine (hM.out _).mono ?_; rintro e w4 ⟨rfl, hb4⟩; have nx4 := bgo (b0 w) hb4))
    go_ret
    exact ⟨rfl, nx4⟩
end Go.Proofs.Ytjhmfljlclajnab
