/- Parts of the proof. -/
import Derived.Test.YtjhmfljlclajnacGreatDoorKTopWhole10
set_option linter.unusedVariables false
set_option linter.unusedSimpArgs false
set_option maxRecDepth 100000
set_option maxHeartbeats 40000000
namespace Wb
open Go Go.RowKit
theorem any_hit {l : List Hnd} {k : Nat} (hk : k < l.length) (h : l[k].on = true) : l.any (·.on) = true := List.any_eq_true.2 ⟨_, List.getElem_mem hk, h⟩
theorem any_step {l : List Hnd} {k : Nat} (hk : k < l.length) (h0 : (l.take k).any (·.on) = false) (h : l[k].on = false) : (l.take (k + 1)).any (·.on) = false := by
 rw [List.take_succ_eq_append_getElem hk, List.any_append, h0]
 simp [h]
theorem any_full {l : List Hnd} {k : Nat} (hk : ¬ k < l.length) (h0 : (l.take k).any (·.on) = false) : l.any (·.on) = false := by
 rw [List.take_of_length_le (by omega)] at h0; exact h0
theorem hnds_RL {w : World} {b : Nat} {t : TypeId} {x0 x1 x2 x3 : Value} (p q r : Hnd) (h : Blk w b #[x0, x1, x2, x3, .bool p.on, .int .i64 p.left, .bool q.on, .int .i64 q.left, .bool r.on, .int .i64 r.left] t) : RL hndC w (.slice (some ⟨b, 4, none⟩) 3 3) [p, q, r] := by
 refine ⟨_, _, rfl, Nat.le_refl _, by unfold maxLen; omega, .inr ⟨_, _, rfl, fun j u hj => ?_⟩⟩
 rw [h.cell]
 rw [<- hj]
 have hl : j < 6 := by
  have := (List.getElem?_eq_some_iff.1 hj).1
  simpa [hndC] using this
 obtain (rfl | rfl | rfl | rfl | rfl | rfl) : j = 0 \/ j = 1 \/ j = 2 \/ j = 3 \/ j = 4 \/ j = 5 := by omega
 all_goals rfl
end Wb
namespace Go.Proofs.YtjhmfljlclajnacGreatDoor
open Go.RowKit Wb
theorem txn_Open1 (h : Hnd) (w : World) : Calls Tryz.prog 69 #[.agg #[.bool h.on, .int .i64 h.left]] w fun e w' => e = .returned (.bool h.on) /\ Below w.heap.size w w' := by
 have k0 := Blk.new w #[.bool h.on, .int .i64 h.left] 37
 have c0 := k0.cell 0; have c1 := k0.cell 1
 simp only [Zga, Zgb, Zgc] at c0 c1
 go_enter Tryz.func69, Tryz.ntmps69
 go_wp2
 go_ret
 exact ⟨rfl, bal (b0 w) _⟩
theorem hnd_Index (l : List Hnd) (v : Value) (w : World) (h : RL hndC w v l) (hl : l.length <= 3) :
    Calls Tryz.prog 113 #[v, .func (.func 69) #[] #[]] w fun e w' => (∃ r : Int, e = .returned (.int .i64 r) /\ (decide (r ≥ 0) = l.any (·.on))) /\ Below w.heap.size w w' := by
 obtain ⟨a, cap, rfl, _⟩ := h.form
 have hO := fun h w => txn_Open1 h w
 have hhit := fun k (hk : k < l.length) hh => any_hit (l := l) hk hh
 have hst := fun k (hk : k < l.length) h0 hh => any_step (l := l) hk h0 hh
 have hfu := fun k (hk : ¬ k < l.length) h0 => any_full (l := l) hk h0
 generalize hal : l.any (·.on) = al at *
 replace h := hid h; replace hO := hid hO; replace hhit := hid hhit; replace hst := hid hst; replace hfu := hid hfu
 clear hal
 go_enter Tryz.func113, Tryz.ntmps113
 go_wp2
 go_loopw [5, 8] (fun _ i wr => ∃ k : Nat, k <= l.length /\ i = .int .i64 k /\ Hid ((l.take k).any (·.on) = false) /\ Below w.heap.size w wr) (fun _ i _ => l.length - (intOf i).toNat)
 case atStart => exact ⟨0, Nat.zero_le _, rfl, rfl, b0 w⟩
 case round =>
  obtain ⟨k, hk, rfl, hall, nx⟩ := hrel
  by_cases hlt : k < l.length
  ·obtain ⟨b1, o1, rfl, c0, c1⟩ := RL.at2 (fun x => .bool x.on) (fun x => .int .i64 x.left) (fun _ => rfl) (h.out.below nx) hlt
   have hh1 := hid (hhit.out k hlt)
   have hh2 := hid (fun hh => hst.out k hlt hall.out hh)
   generalize l[k] = x at *
   have hOx := hO.out x
   cases hx : x.on with
   | true =>
    have hv := hid (hh1.out hx)
    rw [hx] at hOx c0
    replace hOx := hid hOx
    clear hx hh1 hh2 hall
    go_wp2_with (go_at_call 69; ((with_reducible refine (hOx.out _).mono ?_); rintro e w1 ⟨rfl, hb1⟩))
    go_ret
    exact ⟨⟨_, rfl, by rw [hv.out]; exact decide_eq_true (Int.natCast_nonneg _)⟩, bgo nx hb1⟩
   | false =>
    have hy := hid (hh2.out hx)
    rw [hx] at hOx c0
    replace hOx := hid hOx
    clear hx hh1 hh2 hall
    go_wp2_with (go_at_call 69; ((with_reducible refine (hOx.out _).mono ?_); rintro e w1 ⟨rfl, hb1⟩))
    go_roundw
    case rel => first | exact ⟨k + 1, by omega, by go_num, hy, bgo nx hb1⟩ | ((repeat apply Exists.intro); exact ⟨⟨k + 1, by omega, by go_num, hy, bgo nx hb1⟩, rfl⟩)
    case measure => simp [intOf]; omega
  ·have hv := hid (hfu.out k hlt hall.out)
   clear hall
   go_wp2
   go_ret
   exact ⟨⟨_, rfl, by rw [hv.out]; rfl⟩, nx⟩
theorem hnd_Contains (l : List Hnd) (v : Value) (w : World) (h : RL hndC w v l) (hl : l.length <= 3) :
    Calls Tryz.prog 68 #[v, .func (.func 69) #[] #[]] w fun e w' => e = .returned (.bool (l.any (·.on))) /\ Below w.heap.size w w' := by
 have hI := hid (hnd_Index l v w h hl)
 obtain ⟨a, cap, rfl, _⟩ := h.form
 generalize l.any (·.on) = al at *
 clear h
 go_enter Tryz.func68, Tryz.ntmps68
 go_wp2_with (go_at_call 113; ((with_reducible refine hI.out.mono ?_); rintro e w1 ⟨⟨r, rfl, hr⟩, hb1⟩; replace hr := hid hr))
 all_goals
  go_ret
  refine ⟨ret_b ?_, hb1⟩
  have := hr.out
  first | exact this | (rw [<- this]; (try simp_all); (try omega))
theorem txn_Open (t : Txn) (v : Value) (w : World) (h : RTxn w v t) :
    Calls Tryz.prog 29 #[v] w fun e w' => e = .returned (.bool (openB t)) /\ Below w.heap.size w w' := by
 obtain ⟨vm, vd, vr, rfl, hm, hd, hr, n1, n2, n3⟩ := h
 obtain ⟨am, cm, rfl, _⟩ := hm.form
 obtain ⟨ad, cd, rfl, _⟩ := hd.form
 obtain ⟨ar, cr, rfl, _⟩ := hr.form
 unfold txnV
 have k0 := Blk.new w #[.int .i64 t.seq, .slice am t.mt.length cm, .slice ad t.dt.length cd, .slice ar t.rev.length cr, .bool t.h0.on, .int .i64 t.h0.left, .bool t.h1.on, .int .i64 t.h1.left, .bool t.h2.on, .int .i64 t.h2.left] 40
 have nx := bal (b0 w) (.cells #[.int .i64 t.seq, .slice am t.mt.length cm, .slice ad t.dt.length cd, .slice ar t.rev.length cr, .bool t.h0.on, .int .i64 t.h0.left, .bool t.h1.on, .int .i64 t.h1.left, .bool t.h2.on, .int .i64 t.h2.left] 40)
 have hC := hnd_Contains [t.h0, t.h1, t.h2] _ _ (hnds_RL t.h0 t.h1 t.h2 k0) (Nat.le_refl 3)
 have e : [t.h0, t.h1, t.h2].any (·.on) = openB t := by unfold openB; simp [Bool.or_assoc]
 rw [e] at hC
 generalize openB t = ob at *
 replace hC := hid hC
 clear hm hd hr e k0
 go_enter Tryz.func29, Tryz.ntmps29
 go_wp2_with (go_at_call 68; ((with_reducible refine hC.out.mono ?_); rintro e w1 ⟨rfl, hb1⟩))
 go_ret
 exact ⟨rfl, bgo nx hb1⟩
theorem Zstp {A : Prop} (h : A := by
 go_enter Tryz.func85, Tryz.ntmps85
 go_wp2_with (first
  | (refine ZcL ?_) | (refine ZcS ?_; clear X; intro w X) | (refine ZcA ?_; clear X; intro g w X)
  | (go_at_call 30; ((with_reducible refine (hG.out _ X.below).mono ?_); rintro e w1 ⟨rfl, hb1⟩; replace X := X.call hb1; clear hb1))
  | (go_at_call 126; ((with_reducible refine (hH.out _).mono ?_); rintro e w1 ⟨rfl, rfl⟩)))
 exact m_ret2 rfl (.tmp rfl rfl) (.tmp rfl rfl) X (.head _) rfl rfl ⟨by rw [hv.out.1, hv.out.2] <;> (try rfl), X.below⟩) : A := h
theorem txn_Stop (t : Txn) (h : Int) (vm vd vr : Value) (w : World) (ht : RTxn w (txnV t vm vd vr) t) :
    Calls Tryz.prog 85 #[txnV t vm vd vr, .int .i64 h] w fun e w' => e = .returned (.tuple #[txnV (stopT t h) vm vd vr, .int .i64 (stopE t h)]) /\ Below w.heap.size w w' := by
 have hG0 := fun w' (hh : Below w.heap.size w w') => txn_Good t _ w' (ht.below hh)
 obtain ⟨vm', vd', vr', hvv, hm, hd, hr, n1, n2, n3⟩ := ht
 simp only [txnV, Value.agg.injEq, Array.mk.injEq, List.cons.injEq, and_true, true_and] at hvv
 obtain ⟨rfl, rfl, rfl⟩ := hvv
 obtain ⟨am, cm, rfl, _⟩ := hm.form
 obtain ⟨ad, cd, rfl, _⟩ := hd.form
 obtain ⟨ar, cr, rfl, _⟩ := hr.form
 have hH := fun w => txn_handle h w
 obtain ⟨seq, mt, dt, rev, ⟨o0, l0⟩, ⟨o1, l1⟩, ⟨o2, l2⟩⟩ := t
 unfold txnV at hG0 ⊢
 dsimp only at *
 have X := St.start [] w
 clear hm hd hr
 cases hg : goodT ⟨seq, mt, dt, rev, ⟨o0, l0⟩, ⟨o1, l1⟩, ⟨o2, l2⟩⟩ with
 | false =>
  have hv := hid (stop_bad (h := h) hg)
  have hG := fun w' hh => hG0 w' hh
  rw [hg] at hG
  replace hG := hid hG; replace hH := hid hH
  clear hg hG0
  exact Zstp
 | true =>
  have hG := fun w' hh => hG0 w' hh
  rw [hg] at hG
  replace hG := hid hG
  clear hG0
  by_cases hh : 0 <= h /\ h <= 2
  rotate_left
  ·have hv := hid (stop_none hg (.inl hh))
   have hhf : isHnd h = false := decide_eq_false (by omega)
   rw [hhf] at hH
   replace hH := hid hH
   clear hhf hg
   by_cases hneg : h < 0
   ·clear hh
    exact Zstp
   ·have hgt : 2 < h := by omega
    clear hh
    exact Zstp
  have hht : isHnd h = true := decide_eq_true (by omega)
  rw [hht] at hH
  replace hH := hid hH
  clear hht
  obtain (rfl | rfl | rfl) : h = 0 \/ h = 1 \/ h = 2 := by omega
  ·cases o0 with
   | false =>
    have hv := hid (stop_none (h := 0) hg (.inr (by simp [getH])))
    clear hg hh
    exact Zstp
   | true =>
    have hv := hid (stop_ok (h := 0) hg (by decide) (by simp [getH]))
    clear hg hh
    exact Zstp
  ·cases o1 with
   | false =>
    have hv := hid (stop_none (h := 1) hg (.inr (by simp [getH])))
    clear hg hh
    exact Zstp
   | true =>
    have hv := hid (stop_ok (h := 1) hg (by decide) (by simp [getH]))
    clear hg hh
    exact Zstp
  ·cases o2 with
   | false =>
    have hv := hid (stop_none (h := 2) hg (.inr (by simp [getH])))
    clear hg hh
    exact Zstp
   | true =>
    have hv := hid (stop_ok (h := 2) hg (by decide) (by simp [getH]))
    clear hg hh
    exact Zstp
theorem Zbgp {A : Prop} (h : A := by
 go_enter Tryz.func84, Tryz.ntmps84
 go_upto_region 1 with (first
  | (refine Zbx ?_; clear X; intro g w X)
  | (refine ZyL ?_) | (refine ZyS ?_; clear X; intro w X) | (refine ZyA ?_; clear X; intro g w X))
 go_wp2_with (first
  | go_skip
  | (refine ZyL ?_) | (refine ZyS ?_; clear X; intro w X) | (refine ZyA ?_; clear X; intro g w X)
  | (go_at_call 30; ((with_reducible refine (hG.out _ X.below).mono ?_); rintro e w1 ⟨rfl, hb1⟩; replace X := X.call hb1; clear hb1))
  | (go_at_call 126; ((with_reducible refine (hH.out _).mono ?_); rintro e w1 ⟨rfl, rfl⟩))
  | (go_at_call 32; ((with_reducible refine (hA.out _ X.below).mono ?_); rintro e w1 ⟨rfl, hb1⟩; replace X := X.call hb1; clear hb1))
  | (go_at_call 31; ((with_reducible refine (hM.out _).mono ?_); rintro e w1 ⟨rfl, rfl⟩)))
 exact m_ret2 rfl (.tmp rfl rfl) (.tmp rfl rfl) X (.head _) rfl rfl ⟨by rw [hv.out.1, hv.out.2] <;> (try rfl), X.below⟩) : A := h
theorem txn_Begin (t : Txn) (h nn fr : Int) (vm vd vr : Value) (w : World) (ht : RTxn w (txnV t vm vd vr) t) :
    Calls Tryz.prog 84 #[txnV t vm vd vr, .int .i64 h, .int .i64 nn, .int .i64 fr] w fun e w' => e = .returned (.tuple #[txnV (begT t h nn fr) vm vd vr, .int .i64 (begE t h nn fr)]) /\ Below w.heap.size w w' := by
 have hG0 := fun w' (hh : Below w.heap.size w w') => txn_Good t _ w' (ht.below hh)
 have hA := fun w' (hh : Below w.heap.size w w') => txn_Asked t _ w' (ht.below hh)
 obtain ⟨vm', vd', vr', hvv, hm, hd, hr, n1, n2, n3⟩ := ht
 simp only [txnV, Value.agg.injEq, Array.mk.injEq, List.cons.injEq, and_true, true_and] at hvv
 obtain ⟨rfl, rfl, rfl⟩ := hvv
 obtain ⟨am, cm, rfl, _⟩ := hm.form
 obtain ⟨ad, cd, rfl, _⟩ := hd.form
 obtain ⟨ar, cr, rfl, _⟩ := hr.form
 have hH := fun w => txn_handle h w
 have hM := fun w => ring_Most (askedI t + nn) w
 have hAb := fun (h : goodT t = true) => asked_low h (by omega) (by omega)
 obtain ⟨seq, mt, dt, rev, ⟨o0, l0⟩, ⟨o1, l1⟩, ⟨o2, l2⟩⟩ := t
 unfold txnV at hG0 hA ⊢
 dsimp only at *
 have X := St.start [] w
 clear hm hd hr
 cases hg : goodT ⟨seq, mt, dt, rev, ⟨o0, l0⟩, ⟨o1, l1⟩, ⟨o2, l2⟩⟩ with
 | false =>
  have hv := hid (beg_bad (h := h) (n := nn) (free := fr) hg)
  have hG := fun w' hh => hG0 w' hh
  rw [hg] at hG
  replace hG := hid hG; replace hH := hid hH
  clear hg hG0 hM hA hAb
  exact Zbgp
 | true =>
  have hG := fun w' hh => hG0 w' hh
  rw [hg] at hG
  replace hG := hid hG
  clear hG0
  by_cases hh : 0 <= h /\ h <= 2
  rotate_left
  ·have hv := hid (beg_none (n := nn) (free := fr) hg hh)
   have hhf : isHnd h = false := decide_eq_false (by omega)
   rw [hhf] at hH
   replace hH := hid hH
   clear hhf hg hM hA hAb
   by_cases hneg : h < 0
   ·clear hh
    exact Zbgp
   ·have hgt : 2 < h := by omega
    clear hh
    exact Zbgp
  have hht : isHnd h = true := decide_eq_true (by omega)
  rw [hht] at hH
  replace hH := hid hH
  clear hht
  obtain ⟨hA0, hA1⟩ := hAb hg
  clear hAb
  obtain ⟨A, hAA⟩ : ∃ A, askedI ⟨seq, mt, dt, rev, ⟨o0, l0⟩, ⟨o1, l1⟩, ⟨o2, l2⟩⟩ = A := ⟨_, rfl⟩
  rw [hAA] at hA hM hA0 hA1
  replace hA := hid hA
  obtain ⟨M, hMM⟩ : ∃ M, mostN (A + nn) = M := ⟨_, rfl⟩
  rw [hMM] at hM
  replace hM := hid hM
  obtain (rfl | rfl | rfl) : h = 0 \/ h = 1 \/ h = 2 := by omega
  ·cases o0 with
   | true =>
    have hv := hid (beg_on (h := 0) (n := nn) (free := fr) hg (by decide) (by simp [getH]))
    clear hg hh hAA hMM hA0 hA1
    exact Zbgp
   | false =>
    by_cases hn : nn < 0 \/ 12 < nn
    ·have hv := hid (beg_far (h := 0) (n := nn) (free := fr) hg (by decide) (by simp [getH]) hn)
     clear hg hh hAA hMM hA0 hA1
     by_cases hneg : nn < 0
     ·clear hn
      exact Zbgp
     ·have hgt : 12 < nn := by omega
      clear hn
      exact Zbgp
    have hn0 : 0 <= nn := by omega
    have hn1 : nn <= 12 := by omega
    have hw : IntKind.i64.wrap (A + nn) = A + nn := IntWalk.i64_in _ (by omega)
    have hw' : RowKit.wrap64 (A + nn) = A + nn := by rw [w64]; exact hw
    by_cases hb : 24 < A + nn
    ·have hv := hid (beg_full (h := 0) (free := fr) hg (by decide) (by simp [getH]) hn (.inl (by rw [hAA]; exact hb)))
     clear hg hh hAA hMM hn
     exact Zbgp
    have hbd : decide (24 < A + nn) = false := decide_eq_false hb
    by_cases hf : fr < M
    ·have hv := hid (beg_full (h := 0) (free := fr) hg (by decide) (by simp [getH]) hn (.inr (by rw [hAA, hMM]; exact hf)))
     clear hg hh hAA hMM hn
     exact Zbgp
    ·have hv := hid (beg_ok (h := 0) (free := fr) hg (by decide) (by simp [getH]) hn (by rw [hAA, hMM]; omega))
     clear hg hh hAA hMM hn
     exact Zbgp
  ·cases o1 with
   | true =>
    have hv := hid (beg_on (h := 1) (n := nn) (free := fr) hg (by decide) (by simp [getH]))
    clear hg hh hAA hMM hA0 hA1
    exact Zbgp
   | false =>
    by_cases hn : nn < 0 \/ 12 < nn
    ·have hv := hid (beg_far (h := 1) (n := nn) (free := fr) hg (by decide) (by simp [getH]) hn)
     clear hg hh hAA hMM hA0 hA1
     by_cases hneg : nn < 0
     ·clear hn
      exact Zbgp
     ·have hgt : 12 < nn := by omega
      clear hn
      exact Zbgp
    have hn0 : 0 <= nn := by omega
    have hn1 : nn <= 12 := by omega
    have hw : IntKind.i64.wrap (A + nn) = A + nn := IntWalk.i64_in _ (by omega)
    have hw' : RowKit.wrap64 (A + nn) = A + nn := by rw [w64]; exact hw
    by_cases hb : 24 < A + nn
    ·have hv := hid (beg_full (h := 1) (free := fr) hg (by decide) (by simp [getH]) hn (.inl (by rw [hAA]; exact hb)))
     clear hg hh hAA hMM hn
     exact Zbgp
    have hbd : decide (24 < A + nn) = false := decide_eq_false hb
    by_cases hf : fr < M
    ·have hv := hid (beg_full (h := 1) (free := fr) hg (by decide) (by simp [getH]) hn (.inr (by rw [hAA, hMM]; exact hf)))
     clear hg hh hAA hMM hn
     exact Zbgp
    ·have hv := hid (beg_ok (h := 1) (free := fr) hg (by decide) (by simp [getH]) hn (by rw [hAA, hMM]; omega))
     clear hg hh hAA hMM hn
     exact Zbgp
  ·cases o2 with
   | true =>
    have hv := hid (beg_on (h := 2) (n := nn) (free := fr) hg (by decide) (by simp [getH]))
    clear hg hh hAA hMM hA0 hA1
    exact Zbgp
   | false =>
    by_cases hn : nn < 0 \/ 12 < nn
    ·have hv := hid (beg_far (h := 2) (n := nn) (free := fr) hg (by decide) (by simp [getH]) hn)
     clear hg hh hAA hMM hA0 hA1
     by_cases hneg : nn < 0
     ·clear hn
      exact Zbgp
     ·have hgt : 12 < nn := by omega
      clear hn
      exact Zbgp
    have hn0 : 0 <= nn := by omega
    have hn1 : nn <= 12 := by omega
    have hw : IntKind.i64.wrap (A + nn) = A + nn := IntWalk.i64_in _ (by omega)
    have hw' : RowKit.wrap64 (A + nn) = A + nn := by rw [w64]; exact hw
    by_cases hb : 24 < A + nn
    ·have hv := hid (beg_full (h := 2) (free := fr) hg (by decide) (by simp [getH]) hn (.inl (by rw [hAA]; exact hb)))
     clear hg hh hAA hMM hn
     exact Zbgp
    have hbd : decide (24 < A + nn) = false := decide_eq_false hb
    by_cases hf : fr < M
    ·have hv := hid (beg_full (h := 2) (free := fr) hg (by decide) (by simp [getH]) hn (.inr (by rw [hAA, hMM]; exact hf)))
     clear hg hh hAA hMM hn
     exact Zbgp
    ·have hv := hid (beg_ok (h := 2) (free := fr) hg (by decide) (by simp [getH]) hn (by rw [hAA, hMM]; omega))
     clear hg hh hAA hMM hn
     exact Zbgp
end Go.Proofs.YtjhmfljlclajnacGreatDoor
namespace Wb
open Go Go.RowKit
section
variable {P : Program} {w : World} {ops : Array Oper} {rest : List Oper} {o : Oper} {a : Act} {Q : Exit -> Act -> World -> Prop}
theorem wpList_appR (hgd : o.guard = none) (d s : Operand) (t t' : TypeId) (ho : o.op = .call { callee := .builtin .append, args := #[d, s], argTypes := #[t, t'] }) {v u v' : Value} {w' : World}
    (hr : (Builtin.append_ #[t, t'] o.type #[v, u]).run P w = .ok v' w') (hd : a.eval d = v) (hs : a.eval s = u) (h : wpList P ops Q rest (a.put o.dst v') w') : wpList P ops Q (o :: rest) a w := by
 refine wpList_plain hgd fun K hK => ?_
 unfold Oper.wp execOp
 simp only [ho, resolve, invoke, builtin, Sem.run_bind, Sem.run_pure, Result.andThen_ok, List.map_toArray, List.map_cons, List.map_nil, hd, hs, hr]
 exact hK _ _ h
theorem step_copyR {K : Act -> World -> Prop} {E : Prop} (hg : o.guard = none) (d s : Operand) (t t' : TypeId) (ho : o.op = .call { callee := .builtin .copy, args := #[d, s], argTypes := #[t, t'] }) {v u v' : Value} {w' : World}
    (hr : (Builtin.copy_ #[t, t'] o.type #[v, u]).run P w = .ok v' w') (hd : a.eval d = v) (hs : a.eval s = u) (hK : K (a.put o.dst v') w') : if Region.wanted o (yielded ops a.tmps) = true then Oper.wp P o a w K Q else E := by
 have hw : Region.wanted o (yielded ops a.tmps) = true := by simp [Region.wanted, hg]
 rw [if_pos hw]
 unfold Oper.wp execOp
 simp only [ho, resolve, invoke, builtin, Sem.run_bind, Sem.run_pure, Result.andThen_ok, List.map_toArray, List.map_cons, List.map_nil, hd, hs, hr]
 exact hK
theorem run_copy_blk {dT elem : TypeId} {c bytes : Nat} (hT : Elem P dT elem c bytes) (w : World) (sT ty : TypeId) {g : Nat} {cur : Array Value} (hk : Blk w g cur elem) (off dLen dCap : Nat) (b soff sLen sCap : Nat) (cs : List Value)
    (hn : cs.length = Nat.min sLen dLen * c) (hsrc : ∀ j v, cs[j]? = some v -> w.cell? ⟨b, soff + j, none⟩ = some v) (hfit : off + cs.length <= cur.size) (h1 : ∀ v ∈ cs, v.oneCell' = true) :
    (Builtin.copy_ #[dT, sT] ty #[.slice (some ⟨g, off, none⟩) dLen dCap, .slice (some ⟨b, soff, none⟩) sLen sCap]).run P w = .ok (goInt (Nat.min sLen dLen : Nat)) (w.setCells g off cs) := by
 obtain ⟨hu, i, z, hi, hz, hsz, hby, hzs⟩ := hT
 exact run_copy_c w dT sT ty elem c g off dLen dCap ⟨b, soff, none⟩ sLen sCap cs hu (by rw [hi]; simp [hsz]) hn (fun j v hj => by rw [Addr.add_lit]; exact hsrc j v hj) (fun j hj => by rw [hk.cell, Array.getElem?_eq_getElem (by omega)]; rfl) (fun j hj => hk.free _) h1
end
section
variable {α : Type} {f : α -> List Value} {base : Nat} {e : TypeId} {c : Nat} {l : List α}
theorem flat_one (hF : Flat f c) (l : List α) : ∀ u ∈ l.flatMap f, u.oneCell' = true := fun u hu => by obtain ⟨x, _, hx⟩ := List.mem_flatMap.1 hu; exact hF.one x u hx
theorem insLen {i : Nat} (x : α) (hi : i <= l.length) : (l.take i ++ x :: l.drop i).length = l.length + 1 := by
 rw [List.length_append, List.length_take, List.length_cons, List.length_drop]; omega
theorem ins_shift (hF : Flat f c) {g cap i : Nat} {cur : Array Value} (hbg : base <= g) (hmax : cap <= maxLen) (hsz : cur.size = cap * c) (htk : cur.toList.take (l.length * c) = l.flatMap f) (hi : i <= l.length) (hc : l.length + 1 <= cap) (x : α) {w0 : World} (hk : Blk w0 g cur e) :
    ∃ cur1 : Array Value, cur1.size = cap * c /\ Blk (w0.setCells g ((i + 1) * c) ((l.drop i).flatMap f)) g cur1 e /\ ∀ w1, Blk w1 g cur1 e -> Own f base e c (w1.setCells g (i * c) (f x)) (.slice (some ⟨g, 0, none⟩) (l.length + 1) cap) (l.take i ++ x :: l.drop i) := by
 have hd := flat_dropLen hF.len l i
 have hm := mul_split (c := c) hi
 have hm2 : (l.length + 1) * c <= cap * c := Nat.mul_le_mul_right _ hc
 rw [Nat.succ_mul] at hm2
 have b1 := Blk.sets ((l.drop i).flatMap f) ((i + 1) * c) w0 cur hk (by rw [hd, hsz, Nat.succ_mul]; omega)
 have hs1 : (cur.toList.take ((i + 1) * c) ++ (l.drop i).flatMap f ++ cur.toList.drop ((i + 1) * c + ((l.drop i).flatMap f).length)).length = cap * c := by
  simp only [List.length_append, List.length_take, List.length_drop, Array.length_toList, hsz, hd, Nat.succ_mul]
  omega
 refine ⟨_, by simpa using hs1, b1, fun w1 k1 => ?_⟩
 have b2 := Blk.sets (f x) (i * c) w1 _ k1 (by rw [hF.len, List.size_toArray, hs1]; omega)
 obtain ⟨h1, h2⟩ := ins_room hF.len cur.toList l i cap x (by rw [Array.length_toList]; exact hsz) htk hi hc rfl rfl
 have := Own.ofRow (l := l.take i ++ x :: l.drop i) (base := base) hF hbg b2 (by rw [insLen x hi]; exact hc) hmax (by rw [List.size_toArray]; exact h1) (by rw [insLen x hi]; exact h2)
 rw [insLen x hi] at this
 exact this
theorem ins_grown (hF : Flat f c) {g cap i : Nat} {cur : Array Value} (Z : List Value) (hbg : base <= g) (hmax : cap <= maxLen) (hZ : Z.length = (cap - i) * c) (hcur : cur = ((l.take i).flatMap f ++ Z).toArray) (hi : i <= l.length) (hc : l.length + 1 <= cap) (x : α) {w0 : World} (hk : Blk w0 g cur e) :
    cur.size = cap * c /\ ∃ cur1 : Array Value, cur1.size = cap * c /\ Blk (w0.setCells g (i * c) (f x)) g cur1 e /\ ∀ w1, Blk w1 g cur1 e -> Own f base e c (w1.setCells g ((i + 1) * c) ((l.drop i).flatMap f)) (.slice (some ⟨g, 0, none⟩) (l.length + 1) cap) (l.take i ++ x :: l.drop i) := by
 have hd := flat_dropLen hF.len l i
 have hm := mul_split (c := c) hi
 have hm2 : (l.length + 1) * c <= cap * c := Nat.mul_le_mul_right _ hc
 have hm3 := mul_split (c := c) (n := cap) (i := i) (by omega)
 have h4 := flat_len hF.len (l.take i)
 rw [List.length_take, Nat.min_eq_left hi] at h4
 rw [Nat.succ_mul] at hm2
 have hs0 : cur.size = cap * c := by rw [hcur, List.size_toArray, List.length_append, h4, hZ]; exact hm3
 refine ⟨hs0, ?_⟩
 have b1 := Blk.sets (f x) (i * c) w0 cur hk (by rw [hF.len, hs0]; omega)
 have hs1 : (cur.toList.take (i * c) ++ f x ++ cur.toList.drop (i * c + (f x).length)).length = cap * c := by
  simp only [List.length_append, List.length_take, List.length_drop, Array.length_toList, hs0, hF.len]
  omega
 refine ⟨_, by simpa using hs1, b1, fun w1 k1 => ?_⟩
 have b2 := Blk.sets ((l.drop i).flatMap f) ((i + 1) * c) w1 _ k1 (by rw [hd, List.size_toArray, hs1, Nat.succ_mul]; omega)
 obtain ⟨h1, h2⟩ := ins_grow hF.len Z l i cap x hZ hi hc (L := cur.toList) (by rw [hcur]) rfl rfl
 have := Own.ofRow (l := l.take i ++ x :: l.drop i) (base := base) hF hbg b2 (by rw [insLen x hi]; exact hc) hmax (by rw [List.size_toArray]; exact h1) (by rw [insLen x hi]; exact h2)
 rw [insLen x hi] at this
 exact this
theorem run_app_make {P : Program} {t tn : TypeId} {bytes : Nat} (hF : Flat f c) (hT : Elem P t e c bytes) (htn : P.underlying tn = some (.int .i64)) (w : World) {g cap i m : Nat} {cur : Array Value} (hk : Blk w g cur e) (htk : cur.toList.take (l.length * c) = l.flatMap f) (hi : i <= l.length) (hm : 0 < m) (hg : cap < i + m)
    (hroom : (i + m) * bytes <= 140737488355328) (h63 : i + m <= maxLen) :
    ∃ Z : List Value, Z.length = (grownCap w (i + m) cap e - i) * c /\ ∀ ty, (Builtin.append_ #[t, tn] ty #[.slice (some ⟨g, 0, none⟩) i cap, .int .i64 m]).run P w =
      .ok (.slice (some ⟨w.heap.size, 0, none⟩) (i + m) (grownCap w (i + m) cap e)) (w.drew.alloc (.cells ((l.take i).flatMap f ++ Z).toArray e)) := by
 obtain ⟨hu, io, z, hio, hz, hsz, hby, hzs⟩ := hT
 have hold : (Builtin.firstCells io.size i (.slice (some ⟨g, 0, none⟩) i cap)).run P w.drew = .ok ((l.take i).flatMap f).toArray w.drew := by
  have h4 := flat_len hF.len (l.take i)
  rw [List.length_take, Nat.min_eq_left hi] at h4
  refine run_firstCells_some w.drew io.size i ⟨g, 0, none⟩ i cap _ (by rw [h4, hsz]) (fun j u hj => ?_)
  have hlt : j < ((l.take i).flatMap f).length := (List.getElem?_eq_some_iff.1 hj).1
  rw [Addr.add_lit, Nat.zero_add]
  have h5 : (l.flatMap f)[j]? = some u := by
   conv => lhs; rw [<- List.take_append_drop i l]
   rw [List.flatMap_append, List.getElem?_append_left hlt]
   exact hj
  rw [<- htk, List.getElem?_take] at h5
  split at h5
  ·show w.cell? _ = _
   rw [hk.cell, <- h5]
   simp
  ·cases h5
 have hby' : m * bytes <= (i + m) * bytes := Nat.mul_le_mul_right _ (by omega)
 have hr := fun ty => Lib.run_append_grow_zeros w t tn ty e io z .i64 .i64 hu htn hio hz (some ⟨g, 0, none⟩) i cap _ hold m hm (by rw [hsz]; exact hF.pos) hg (by unfold maxLen at h63; omega) (by rw [hby]; omega) (by rw [hby]; exact growslice_fits hg hroom)
 have hge := grownCap_ge w (i + m) cap e
 refine ⟨(Builtin.zeroCells z.cells m).toList ++ (Builtin.zeroCells z.cells (grownCap w (i + m) cap e - (i + m))).toList, ?_, ?_⟩
 ·rw [List.length_append, Array.length_toList, Array.length_toList, size_zeroCells, size_zeroCells, hzs, <- Nat.add_mul]
  congr 1
  omega
 ·intro ty
  rw [hr]
  congr 3
  apply Array.ext'
  simp [List.append_assoc]
end
end Wb
namespace Go.Proofs.YtjhmfljlclajnacGreatDoor
open Go.RowKit Wb
theorem slices_InsertC (l : List Cpy) (i : Nat) (x : Cpy) (v : Value) (vb base : Nat) (w : World) (h : Wb.Own cpyC base 92 2 w v l) (hbase : base <= w.heap.size) (hx : Blk w vb #[.int .i64 x.block, .string x.text] 92) (hvb : v.ownBlock ≠ some vb) (hi : i <= l.length) (hl : l.length <= 1000000) :
    Calls Tryz.prog 165 #[v, .int .i64 i, .slice (some ⟨vb, 0, none⟩) 1 1] w fun e w' => ∃ v', e = .returned v' /\ Wb.Own cpyC base 92 2 w' v' (l.take i ++ x :: l.drop i) /\ Below base w w' := by
 have hrx : RL cpyC w (.slice (some ⟨vb, 0, none⟩) 1 1) [x] := RL.ofBlk (e := 92) [x] (by simpa [cpyC] using hx) (by simp [maxLen])
 by_cases hn : i = l.length
 ·subst hn
  have e1 : l.take l.length ++ x :: l.drop l.length = l ++ [x] := by simp
  rw [e1]
  obtain ⟨a, cap, rfl, hc1, hc2⟩ := h.reads.form
  have hg : a = none /\ cap = 0 \/ ∃ g, a = some ⟨g, 0, none⟩ := by
   rcases h.2 with ⟨h1, _⟩ | ⟨g, cap', cur, h1, _⟩
   ·simp only [Value.slice.injEq] at h1
    exact .inl ⟨h1.1, h1.2.2⟩
   ·simp only [Value.slice.injEq] at h1
    exact .inr ⟨g, h1.1⟩
  replace h := hid h; replace hrx := hid hrx
  clear hx hvb e1
  rcases hg with ⟨rfl, rfl⟩ | ⟨g, rfl⟩
  ·go_enter Tryz.func165, Tryz.ntmps165
   go_wp2_with (at_builtin; refine wpList_app rfl _ _ 34 rfl base _ 2 24 cpyC_flat elemCpy h.out rfl [x] hrx.out rfl (by simp; omega) (by simp; unfold maxLen; omega) hbase ?_; intro v1 w1 hown1 hg1; obtain ⟨a1, cap1, rfl⟩ := hown1.form; have nx := h.out.belowGrown hbase hg1; simp only [len1] at hown1)
   go_ret
   exact ⟨_, rfl, hown1, nx⟩
  ·by_cases hcc : cap = l.length
   ·subst hcc
    go_enter Tryz.func165, Tryz.ntmps165
    go_wp2_with (at_builtin; refine wpList_app rfl _ _ 34 rfl base _ 2 24 cpyC_flat elemCpy h.out rfl [x] hrx.out rfl (by simp; omega) (by simp; unfold maxLen; omega) hbase ?_; intro v1 w1 hown1 hg1; obtain ⟨a1, cap1, rfl⟩ := hown1.form; have nx := h.out.belowGrown hbase hg1; simp only [len1] at hown1)
    go_ret
    exact ⟨_, rfl, hown1, nx⟩
   ·go_enter Tryz.func165, Tryz.ntmps165
    go_wp2_with (at_builtin; refine wpList_app rfl _ _ 34 rfl base _ 2 24 cpyC_flat elemCpy h.out rfl [x] hrx.out rfl (by simp; omega) (by simp; unfold maxLen; omega) hbase ?_; intro v1 w1 hown1 hg1; obtain ⟨a1, cap1, rfl⟩ := hown1.form; have nx := h.out.belowGrown hbase hg1; simp only [len1] at hown1)
    go_ret
    exact ⟨_, rfl, hown1, nx⟩
 ·have hlt : i < l.length := by omega
  obtain ⟨g, cap, cur, rfl, hbg, hkk, hcap, hmax, hsz, htk⟩ := h.row (by omega)
  have hne : vb ≠ g := fun h2 => hvb (by rw [h2]; rfl)
  have hn1 : ¬ ((i : Int) = (l.length : Int)) := by omega
  have hcells := row_from cpyC_flat.len hkk htk hi
  have hxc := fun j u (hj : (cpyC x)[j]? = some u) => (show w.cell? ⟨vb, 0 + j, none⟩ = some u by rw [hx.cell, Nat.zero_add, <- hj]; simp [cpyC])
  have hdl := flat_dropLen cpyC_flat.len l i
  have hfx := cpyC_flat.len x
  have hci : ¬ (cap = i) := by omega
  have hin : (i : Int) <= (l.length : Int) := by omega
  have hw1 : IntKind.i64.wrap ((i : Int) + 1) = (i : Int) + 1 := IntWalk.i64_in _ (by omega)
  have hw2 : IntKind.i64.wrap ((l.length : Int) + 1) = (l.length : Int) + 1 := IntWalk.i64_in _ (by omega)
  have ht1 : ((i : Int) + 1).toNat = i + 1 := by omega
  have hb1 : (0 : Int) <= (i : Int) + 1 := by omega
  have hb3 : (i : Int) <= (l.length : Int) + 1 := by omega
  have ht2 : ((l.length : Int) + 1).toNat = l.length + 1 := by omega
  by_cases hroom : l.length + 1 <= cap
  ·have hci2 : ¬ (cap = i + 1) := by omega
   have hz : ∀ w, (Go.sizeOf 92).run Tryz.prog w = .ok 2 w := fun w => by
    obtain ⟨io, z, h1, h2, h3, _⟩ := elemCpy.info
    simp [Go.sizeOf, typeInfo, h1, h3]
   have hcz : cur.size ≠ 0 := by rw [hsz]; have := Nat.mul_le_mul_right 2 hroom; omega
   have hov : ∀ off lb cb, (callFunc 180 #[.slice (some ⟨vb, 0, none⟩) 1 1, .slice (some ⟨g, off, none⟩) lb cb]).run Tryz.prog w = .ok (.value (.bool false)) w := fun off lb cb => by
    rw [run_callFunc_extern Tryz.func180 (by kernel_rfl) (by kernel_rfl) (by kernel_rfl) (e := Extern.SlicesOverlaps.overlaps #[34, 34] #[4]) (by kernel_rfl),
     Lib.run_overlaps_apart w 34 4 92 elemCpy.under 2 hz ⟨vb, 0, none⟩ ⟨g, off, none⟩ 1 1 lb cb hne 92 92 _ _ (by show w.shape? vb = _; unfold World.shape?; rw [show w.heap[vb]? = _ from hx]) (by show w.shape? g = _; unfold World.shape?; rw [show w.heap[g]? = _ from hkk]) hcz (hx.free _) (hx.free _)]
    rfl
   obtain ⟨cur1, hs1, hk1, hfin⟩ := ins_shift (base := base) cpyC_flat hbg hmax hsz htk hi hroom x (w0 := w.drew) hkk
   have hcp1 : ∀ ty dc sc, (Builtin.copy_ #[34, 34] ty #[.slice (some ⟨g, (i + 1) * 2, none⟩) (l.length - i) dc, .slice (some ⟨g, i * 2, none⟩) (l.length + 1 - i) sc]).run Tryz.prog w.drew = .ok _ (w.drew.setCells g ((i + 1) * 2) ((l.drop i).flatMap cpyC)) := fun ty dc sc =>
    run_copy_blk elemCpy w.drew _ ty (cur := cur) hkk _ _ dc g _ _ sc _ (by rw [hdl]; congr 1; show l.length - i = min (l.length + 1 - i) (l.length - i); omega) hcells (by rw [hdl, hsz]; have h5 := mul_split (c := 2) (n := l.length + 1) (i := i + 1) (by omega); have h6 := Nat.mul_le_mul_right 2 hroom; rw [show l.length + 1 - (i + 1) = l.length - i by omega] at h5; omega) (flat_one cpyC_flat _)
   have hcp2 : ∀ ty dc (w1 : World), Blk w1 g cur1 92 -> (∀ j u, (cpyC x)[j]? = some u -> w1.cell? ⟨vb, 0 + j, none⟩ = some u) -> (Builtin.copy_ #[34, 34] ty #[.slice (some ⟨g, i * 2, none⟩) (l.length + 1 - i) dc, .slice (some ⟨vb, 0, none⟩) 1 1]).run Tryz.prog w1 = .ok _ (w1.setCells g (i * 2) (cpyC x)) := fun ty dc w1 k1 hs2 =>
    run_copy_blk elemCpy w1 _ ty (cur := cur1) k1 _ _ dc vb 0 1 1 _ (by rw [hfx, show Nat.min 1 (l.length + 1 - i) = 1 from Nat.min_eq_left (by omega)]) hs2 (by rw [hfx, hs1]; have h5 := mul_split (c := 2) (n := cap) (i := i) (by omega); have h6 : 1 * 2 <= (cap - i) * 2 := Nat.mul_le_mul_right _ (by omega); omega) (fun u hu => cpyC_flat.one x u hu)
   have hk1 : Blk (w.drew.setCells g ((i + 1) * 2) ((l.drop i).flatMap cpyC)) g cur1 92 := hk1
   have hs2 := fun j u hj => (show (w.drew.setCells g ((i + 1) * 2) ((l.drop i).flatMap cpyC)).cell? ⟨vb, 0 + j, none⟩ = some u by rw [Blk.cell (Blk.sets_other hne _ _ _ hx.drew), <- hxc j u hj, hx.cell])
   have nz1 := Wb.Below.sets g hbg ((l.drop i).flatMap cpyC) ((i + 1) * 2) _ (Below.refl base w).drew
   have nz2 := Wb.Below.sets g hbg (cpyC x) (i * 2) _ nz1
   replace hfin := hid hfin; replace nz2 := hid nz2; replace hxc := hid hxc; replace hs2 := hid hs2; replace hk1 := hid hk1; replace hcp1 := hid hcp1; replace hcp2 := hid hcp2
   clear hcells hdl htk hsz hkk hcz hz hx h nz1
   have hcp2x := fun ty dc => hcp2.out ty dc _ hk1.out hs2.out
   go_enter Tryz.func165, Tryz.ntmps165
   go_wp2_with (simp only [hov])
   go_region_law (refine step_copyR rfl _ _ 34 34 rfl (hcp1.out 3 (cap - (i + 1)) (cap - i)) (by simp [Act.eval, Act.put]) (by simp [Act.eval, Act.put]) ?_)
   all_goals go_wp2
   all_goals go_ret
   all_goals exact ⟨_, rfl, hfin.out _ hk1.out, nz2.out⟩
  ·obtain rfl : cap = l.length := by omega
   obtain ⟨Z, hZ, hrz⟩ : ∃ Z : List Value, Z.length = (grownCap w (l.length + 1) l.length 92 - i) * 2 /\ ∀ ty, (Builtin.append_ #[34, 3] ty #[.slice (some ⟨g, 0, none⟩) i l.length, .int .i64 ((l.length : Int) + 1 - (i : Int))]).run Tryz.prog w = .ok (.slice (some ⟨w.heap.size, 0, none⟩) (l.length + 1) (grownCap w (l.length + 1) l.length 92)) (w.drew.alloc (.cells ((l.take i).flatMap cpyC ++ Z).toArray 92)) := by
    have e1 : i + (l.length + 1 - i) = l.length + 1 := by omega
    have e2 : ((l.length + 1 - i : Nat) : Int) = (l.length : Int) + 1 - (i : Int) := by omega
    obtain ⟨Z, hZ, hq⟩ := run_app_make (P := Tryz.prog) (tn := 3) (cap := l.length) cpyC_flat elemCpy (by kernel_rfl) w hkk htk hi (show 0 < l.length + 1 - i by omega) (by omega) (by rw [e1]; omega) (by rw [e1]; unfold maxLen; omega)
    rw [e1] at hZ hq
    rw [e2] at hq
    exact ⟨Z, hZ, hq⟩
   have hGn : l.length + 1 <= grownCap w (l.length + 1) l.length 92 := grownCap_ge w _ _ _
   have hGm : grownCap w (l.length + 1) l.length 92 <= maxLen := grownCap_le_maxLen w _ _ _ (by unfold maxLen; omega)
   obtain ⟨G, hG⟩ : ∃ G, G = grownCap w (l.length + 1) l.length 92 := ⟨_, rfl⟩
   rw [<- hG] at hZ hrz hGn hGm
   clear hG
   obtain ⟨row, hrow⟩ : ∃ row : Array Value, row = ((l.take i).flatMap cpyC ++ Z).toArray := ⟨_, rfl⟩
   rw [<- hrow] at hrz
   have hbw : g < w.heap.size := Blk.lt (cs := cur) hkk
   have hbv : vb < w.heap.size := hx.lt
   have hk0 : Blk (w.drew.alloc (.cells row 92)) w.heap.size row 92 := Blk.new w.drew row _
   have hk0' : Blk ((w.alloc (.cells row 92)).drew) w.heap.size row 92 := (Blk.new w row _).drew
   have hGi : ¬ (G = i) := by omega
   have hGi2 : ¬ (G = i + 1) := by omega
   have hgt : (l.length : Int) < (l.length : Int) + 1 := by omega
   have hin2 : i <= l.length + 1 := by omega
   obtain ⟨hs0, cur1, hs1, hk1, hfin⟩ := ins_grown (base := base) cpyC_flat Z hbase hGm hZ hrow hi hGn x (w0 := w.drew.alloc (.cells row 92)) hk0
   obtain ⟨W1, hW1⟩ : ∃ W1, W1 = w.drew.alloc (.cells row 92) := ⟨_, rfl⟩
   have hxc1 : ∀ j u, (cpyC x)[j]? = some u -> W1.cell? ⟨vb, 0 + j, none⟩ = some u := fun j u hj => by rw [hW1, Blk.cell (hx.drew.alloc _), <- hxc j u hj, hx.cell]
   have hk0w : Blk W1 w.heap.size row 92 := by rw [hW1]; exact hk0
   have hcpA : ∀ ty dc, (Builtin.copy_ #[34, 34] ty #[.slice (some ⟨w.heap.size, i * 2, none⟩) (l.length + 1 - i) dc, .slice (some ⟨vb, 0, none⟩) 1 1]).run Tryz.prog W1 = .ok _ (W1.setCells w.heap.size (i * 2) (cpyC x)) := fun ty dc =>
    run_copy_blk elemCpy W1 _ ty (cur := row) hk0w _ _ dc vb 0 1 1 _ (by rw [hfx, show Nat.min 1 (l.length + 1 - i) = 1 from Nat.min_eq_left (by omega)]) hxc1 (by rw [hfx, hs0]; have h5 := mul_split (c := 2) (n := G) (i := i) (by omega); have h6 : 1 * 2 <= (G - i) * 2 := Nat.mul_le_mul_right _ (by omega); omega) (fun u hu => cpyC_flat.one x u hu)
   have hk1w : Blk (W1.setCells w.heap.size (i * 2) (cpyC x)).drew w.heap.size cur1 92 := by rw [hW1]; exact hk1
   have hcells1 : ∀ j u, ((l.drop i).flatMap cpyC)[j]? = some u -> (W1.setCells w.heap.size (i * 2) (cpyC x)).drew.cell? ⟨g, i * 2 + j, none⟩ = some u := fun j u hj => by
    rw [show (W1.setCells w.heap.size (i * 2) (cpyC x)).drew.cell? ⟨g, i * 2 + j, none⟩ = (W1.setCells w.heap.size (i * 2) (cpyC x)).cell? ⟨g, i * 2 + j, none⟩ from rfl, hW1, Blk.cell (Blk.sets_other (by omega) _ _ _ ((show Blk w.drew g cur 92 from hkk).alloc _)), <- Blk.cell hkk]
    exact hcells j u hj
   have hcpB : ∀ ty dc sc, (Builtin.copy_ #[34, 34] ty #[.slice (some ⟨w.heap.size, (i + 1) * 2, none⟩) (l.length - i) dc, .slice (some ⟨g, i * 2, none⟩) (l.length - i) sc]).run Tryz.prog (W1.setCells w.heap.size (i * 2) (cpyC x)).drew = .ok _ ((W1.setCells w.heap.size (i * 2) (cpyC x)).drew.setCells w.heap.size ((i + 1) * 2) ((l.drop i).flatMap cpyC)) := fun ty dc sc =>
    run_copy_blk elemCpy (W1.setCells w.heap.size (i * 2) (cpyC x)).drew _ ty (cur := cur1) hk1w _ _ dc g _ _ sc _ (by rw [hdl]; congr 1; show l.length - i = min (l.length - i) (l.length - i); omega) hcells1 (by rw [hdl, hs1]; have h5 := mul_split (c := 2) (n := l.length + 1) (i := i + 1) (by omega); have h6 := Nat.mul_le_mul_right 2 hGn; rw [show l.length + 1 - (i + 1) = l.length - i by omega] at h5; omega) (flat_one cpyC_flat _)
   have hfinw := hfin _ (show Blk (W1.setCells w.heap.size (i * 2) (cpyC x)).drew w.heap.size cur1 92 from hk1w)
   have nx1 : Below base w W1 := by rw [hW1]; exact (Below.refl base w).drew.alloc (by simpa using hbase) _
   have nz2 := Wb.Below.sets w.heap.size hbase ((l.drop i).flatMap cpyC) ((i + 1) * 2) _ (Wb.Below.sets w.heap.size hbase (cpyC x) (i * 2) _ nx1).drew
   rw [<- hW1] at hrz
   replace hfinw := hid hfinw; replace nz2 := hid nz2; replace hW1 := hid hW1; replace hcpB := hid hcpB
   clear hcells hcells1 hdl htk hsz hkk hx h hfin hxc hxc1 hk0 hk0' hk0w hk1 hk1w hs0 hs1 nx1 hrow hZ
   go_enter Tryz.func165, Tryz.ntmps165
   go_wp2_with (at_builtin; refine wpList_appR rfl _ _ _ _ rfl (hrz _) rfl rfl ?_)
   go_region_law (refine step_copyR rfl _ _ 34 34 rfl (hcpB.out 3 (G - (i + 1)) (l.length - i)) (by simp [Act.eval, Act.put]) (by simp [Act.eval, Act.put]) ?_)
   all_goals go_wp2
   all_goals go_ret
   all_goals exact ⟨_, rfl, hfinw.out, nz2.out⟩
theorem slices_InsertI (l : List Int) (i : Nat) (x : Int) (v : Value) (vb base : Nat) (w : World) (h : Wb.Own intC base 3 1 w v l) (hbase : base <= w.heap.size) (hx : Blk w vb #[.int .i64 x] 3) (hvb : v.ownBlock ≠ some vb) (hi : i <= l.length) (hl : l.length <= 1000000) :
    Calls Tryz.prog 134 #[v, .int .i64 i, .slice (some ⟨vb, 0, none⟩) 1 1] w fun e w' => ∃ v', e = .returned v' /\ Wb.Own intC base 3 1 w' v' (l.take i ++ x :: l.drop i) /\ Below base w w' := by
 have hrx : RL intC w (.slice (some ⟨vb, 0, none⟩) 1 1) [x] := RL.ofBlk (e := 3) [x] (by simpa [intC] using hx) (by simp [maxLen])
 by_cases hn : i = l.length
 ·subst hn
  have e1 : l.take l.length ++ x :: l.drop l.length = l ++ [x] := by simp
  rw [e1]
  obtain ⟨a, cap, rfl, hc1, hc2⟩ := h.reads.form
  have hg : a = none /\ cap = 0 \/ ∃ g, a = some ⟨g, 0, none⟩ := by
   rcases h.2 with ⟨h1, _⟩ | ⟨g, cap', cur, h1, _⟩
   ·simp only [Value.slice.injEq] at h1
    exact .inl ⟨h1.1, h1.2.2⟩
   ·simp only [Value.slice.injEq] at h1
    exact .inr ⟨g, h1.1⟩
  replace h := hid h; replace hrx := hid hrx
  clear hx hvb e1
  rcases hg with ⟨rfl, rfl⟩ | ⟨g, rfl⟩
  ·go_enter Tryz.func134, Tryz.ntmps134
   go_wp2_with (at_builtin; refine wpList_app rfl _ _ 35 rfl base _ 1 8 intC_flat elemIntT h.out rfl [x] hrx.out rfl (by simp; omega) (by simp; unfold maxLen; omega) hbase ?_; intro v1 w1 hown1 hg1; obtain ⟨a1, cap1, rfl⟩ := hown1.form; have nx := h.out.belowGrown hbase hg1; simp only [len1] at hown1)
   go_ret
   exact ⟨_, rfl, hown1, nx⟩
  ·by_cases hcc : cap = l.length
   ·subst hcc
    go_enter Tryz.func134, Tryz.ntmps134
    go_wp2_with (at_builtin; refine wpList_app rfl _ _ 35 rfl base _ 1 8 intC_flat elemIntT h.out rfl [x] hrx.out rfl (by simp; omega) (by simp; unfold maxLen; omega) hbase ?_; intro v1 w1 hown1 hg1; obtain ⟨a1, cap1, rfl⟩ := hown1.form; have nx := h.out.belowGrown hbase hg1; simp only [len1] at hown1)
    go_ret
    exact ⟨_, rfl, hown1, nx⟩
   ·go_enter Tryz.func134, Tryz.ntmps134
    go_wp2_with (at_builtin; refine wpList_app rfl _ _ 35 rfl base _ 1 8 intC_flat elemIntT h.out rfl [x] hrx.out rfl (by simp; omega) (by simp; unfold maxLen; omega) hbase ?_; intro v1 w1 hown1 hg1; obtain ⟨a1, cap1, rfl⟩ := hown1.form; have nx := h.out.belowGrown hbase hg1; simp only [len1] at hown1)
    go_ret
    exact ⟨_, rfl, hown1, nx⟩
 ·have hlt : i < l.length := by omega
  obtain ⟨g, cap, cur, rfl, hbg, hkk, hcap, hmax, hsz, htk⟩ := h.row (by omega)
  have hne : vb ≠ g := fun h2 => hvb (by rw [h2]; rfl)
  have hn1 : ¬ ((i : Int) = (l.length : Int)) := by omega
  have hcells := row_from intC_flat.len hkk htk hi
  have hxc := fun j u (hj : (intC x)[j]? = some u) => (show w.cell? ⟨vb, 0 + j, none⟩ = some u by rw [hx.cell, Nat.zero_add, <- hj]; simp [intC])
  have hdl := flat_dropLen intC_flat.len l i
  have hfx := intC_flat.len x
  have hci : ¬ (cap = i) := by omega
  have hin : (i : Int) <= (l.length : Int) := by omega
  have hw1 : IntKind.i64.wrap ((i : Int) + 1) = (i : Int) + 1 := IntWalk.i64_in _ (by omega)
  have hw2 : IntKind.i64.wrap ((l.length : Int) + 1) = (l.length : Int) + 1 := IntWalk.i64_in _ (by omega)
  have ht1 : ((i : Int) + 1).toNat = i + 1 := by omega
  have hb1 : (0 : Int) <= (i : Int) + 1 := by omega
  have hb3 : (i : Int) <= (l.length : Int) + 1 := by omega
  have ht2 : ((l.length : Int) + 1).toNat = l.length + 1 := by omega
  by_cases hroom : l.length + 1 <= cap
  ·have hci2 : ¬ (cap = i + 1) := by omega
   have hz : ∀ w, (Go.sizeOf 3).run Tryz.prog w = .ok 1 w := fun w => by
    obtain ⟨io, z, h1, h2, h3, _⟩ := elemIntT.info
    simp [Go.sizeOf, typeInfo, h1, h3]
   have hcz : cur.size ≠ 0 := by rw [hsz]; have := Nat.mul_le_mul_right 1 hroom; omega
   have hov : ∀ off lb cb, (callFunc 170 #[.slice (some ⟨vb, 0, none⟩) 1 1, .slice (some ⟨g, off, none⟩) lb cb]).run Tryz.prog w = .ok (.value (.bool false)) w := fun off lb cb => by
    rw [run_callFunc_extern Tryz.func170 (by kernel_rfl) (by kernel_rfl) (by kernel_rfl) (e := Extern.SlicesOverlaps.overlaps #[35, 35] #[4]) (by kernel_rfl),
     Lib.run_overlaps_apart w 35 4 3 elemIntT.under 1 hz ⟨vb, 0, none⟩ ⟨g, off, none⟩ 1 1 lb cb hne 3 3 _ _ (by show w.shape? vb = _; unfold World.shape?; rw [show w.heap[vb]? = _ from hx]) (by show w.shape? g = _; unfold World.shape?; rw [show w.heap[g]? = _ from hkk]) hcz (hx.free _) (hx.free _)]
    rfl
   obtain ⟨cur1, hs1, hk1, hfin⟩ := ins_shift (base := base) intC_flat hbg hmax hsz htk hi hroom x (w0 := w.drew) hkk
   have hcp1 : ∀ ty dc sc, (Builtin.copy_ #[35, 35] ty #[.slice (some ⟨g, (i + 1) * 1, none⟩) (l.length - i) dc, .slice (some ⟨g, i * 1, none⟩) (l.length + 1 - i) sc]).run Tryz.prog w.drew = .ok _ (w.drew.setCells g ((i + 1) * 1) ((l.drop i).flatMap intC)) := fun ty dc sc =>
    run_copy_blk elemIntT w.drew _ ty (cur := cur) hkk _ _ dc g _ _ sc _ (by rw [hdl]; congr 1; show l.length - i = min (l.length + 1 - i) (l.length - i); omega) hcells (by rw [hdl, hsz]; have h5 := mul_split (c := 1) (n := l.length + 1) (i := i + 1) (by omega); have h6 := Nat.mul_le_mul_right 1 hroom; rw [show l.length + 1 - (i + 1) = l.length - i by omega] at h5; omega) (flat_one intC_flat _)
   have hcp2 : ∀ ty dc (w1 : World), Blk w1 g cur1 3 -> (∀ j u, (intC x)[j]? = some u -> w1.cell? ⟨vb, 0 + j, none⟩ = some u) -> (Builtin.copy_ #[35, 35] ty #[.slice (some ⟨g, i * 1, none⟩) (l.length + 1 - i) dc, .slice (some ⟨vb, 0, none⟩) 1 1]).run Tryz.prog w1 = .ok _ (w1.setCells g (i * 1) (intC x)) := fun ty dc w1 k1 hs2 =>
    run_copy_blk elemIntT w1 _ ty (cur := cur1) k1 _ _ dc vb 0 1 1 _ (by rw [hfx, show Nat.min 1 (l.length + 1 - i) = 1 from Nat.min_eq_left (by omega)]) hs2 (by rw [hfx, hs1]; have h5 := mul_split (c := 1) (n := cap) (i := i) (by omega); have h6 : 1 * 1 <= (cap - i) * 1 := Nat.mul_le_mul_right _ (by omega); omega) (fun u hu => intC_flat.one x u hu)
   have hk1 : Blk (w.drew.setCells g ((i + 1) * 1) ((l.drop i).flatMap intC)) g cur1 3 := hk1
   have hs2 := fun j u hj => (show (w.drew.setCells g ((i + 1) * 1) ((l.drop i).flatMap intC)).cell? ⟨vb, 0 + j, none⟩ = some u by rw [Blk.cell (Blk.sets_other hne _ _ _ hx.drew), <- hxc j u hj, hx.cell])
   have nz1 := Wb.Below.sets g hbg ((l.drop i).flatMap intC) ((i + 1) * 1) _ (Below.refl base w).drew
   have nz2 := Wb.Below.sets g hbg (intC x) (i * 1) _ nz1
   (try simp only [Nat.mul_one] at hfin); (try simp only [Nat.mul_one] at nz2); (try simp only [Nat.mul_one] at hs2); (try simp only [Nat.mul_one] at hk1); (try simp only [Nat.mul_one] at hcp1); (try simp only [Nat.mul_one] at hcp2)
   replace hfin := hid hfin; replace nz2 := hid nz2; replace hxc := hid hxc; replace hs2 := hid hs2; replace hk1 := hid hk1; replace hcp1 := hid hcp1; replace hcp2 := hid hcp2
   clear hcells hdl htk hsz hkk hcz hz hx h nz1
   have hcp2x := fun ty dc => hcp2.out ty dc _ hk1.out hs2.out
   go_enter Tryz.func134, Tryz.ntmps134
   go_wp2_with (simp only [hov])
   go_region_law (refine step_copyR rfl _ _ 35 35 rfl (hcp1.out 3 (cap - (i + 1)) (cap - i)) (by simp [Act.eval, Act.put]) (by simp [Act.eval, Act.put]) ?_)
   all_goals go_wp2
   all_goals go_ret
   all_goals exact ⟨_, rfl, hfin.out _ hk1.out, nz2.out⟩
  ·obtain rfl : cap = l.length := by omega
   obtain ⟨Z, hZ, hrz⟩ : ∃ Z : List Value, Z.length = (grownCap w (l.length + 1) l.length 3 - i) * 1 /\ ∀ ty, (Builtin.append_ #[35, 3] ty #[.slice (some ⟨g, 0, none⟩) i l.length, .int .i64 ((l.length : Int) + 1 - (i : Int))]).run Tryz.prog w = .ok (.slice (some ⟨w.heap.size, 0, none⟩) (l.length + 1) (grownCap w (l.length + 1) l.length 3)) (w.drew.alloc (.cells ((l.take i).flatMap intC ++ Z).toArray 3)) := by
    have e1 : i + (l.length + 1 - i) = l.length + 1 := by omega
    have e2 : ((l.length + 1 - i : Nat) : Int) = (l.length : Int) + 1 - (i : Int) := by omega
    obtain ⟨Z, hZ, hq⟩ := run_app_make (P := Tryz.prog) (tn := 3) (cap := l.length) intC_flat elemIntT (by kernel_rfl) w hkk htk hi (show 0 < l.length + 1 - i by omega) (by omega) (by rw [e1]; omega) (by rw [e1]; unfold maxLen; omega)
    rw [e1] at hZ hq
    rw [e2] at hq
    exact ⟨Z, hZ, hq⟩
   have hGn : l.length + 1 <= grownCap w (l.length + 1) l.length 3 := grownCap_ge w _ _ _
   have hGm : grownCap w (l.length + 1) l.length 3 <= maxLen := grownCap_le_maxLen w _ _ _ (by unfold maxLen; omega)
   obtain ⟨G, hG⟩ : ∃ G, G = grownCap w (l.length + 1) l.length 3 := ⟨_, rfl⟩
   rw [<- hG] at hZ hrz hGn hGm
   clear hG
   obtain ⟨row, hrow⟩ : ∃ row : Array Value, row = ((l.take i).flatMap intC ++ Z).toArray := ⟨_, rfl⟩
   rw [<- hrow] at hrz
   have hbw : g < w.heap.size := Blk.lt (cs := cur) hkk
   have hbv : vb < w.heap.size := hx.lt
   have hk0 : Blk (w.drew.alloc (.cells row 3)) w.heap.size row 3 := Blk.new w.drew row _
   have hk0' : Blk ((w.alloc (.cells row 3)).drew) w.heap.size row 3 := (Blk.new w row _).drew
   have hGi : ¬ (G = i) := by omega
   have hGi2 : ¬ (G = i + 1) := by omega
   have hgt : (l.length : Int) < (l.length : Int) + 1 := by omega
   have hin2 : i <= l.length + 1 := by omega
   obtain ⟨hs0, cur1, hs1, hk1, hfin⟩ := ins_grown (base := base) intC_flat Z hbase hGm hZ hrow hi hGn x (w0 := w.drew.alloc (.cells row 3)) hk0
   obtain ⟨W1, hW1⟩ : ∃ W1, W1 = w.drew.alloc (.cells row 3) := ⟨_, rfl⟩
   have hxc1 : ∀ j u, (intC x)[j]? = some u -> W1.cell? ⟨vb, 0 + j, none⟩ = some u := fun j u hj => by rw [hW1, Blk.cell (hx.drew.alloc _), <- hxc j u hj, hx.cell]
   have hk0w : Blk W1 w.heap.size row 3 := by rw [hW1]; exact hk0
   have hcpA : ∀ ty dc, (Builtin.copy_ #[35, 35] ty #[.slice (some ⟨w.heap.size, i * 1, none⟩) (l.length + 1 - i) dc, .slice (some ⟨vb, 0, none⟩) 1 1]).run Tryz.prog W1 = .ok _ (W1.setCells w.heap.size (i * 1) (intC x)) := fun ty dc =>
    run_copy_blk elemIntT W1 _ ty (cur := row) hk0w _ _ dc vb 0 1 1 _ (by rw [hfx, show Nat.min 1 (l.length + 1 - i) = 1 from Nat.min_eq_left (by omega)]) hxc1 (by rw [hfx, hs0]; have h5 := mul_split (c := 1) (n := G) (i := i) (by omega); have h6 : 1 * 1 <= (G - i) * 1 := Nat.mul_le_mul_right _ (by omega); omega) (fun u hu => intC_flat.one x u hu)
   have hk1w : Blk (W1.setCells w.heap.size (i * 1) (intC x)).drew w.heap.size cur1 3 := by rw [hW1]; exact hk1
   have hcells1 : ∀ j u, ((l.drop i).flatMap intC)[j]? = some u -> (W1.setCells w.heap.size (i * 1) (intC x)).drew.cell? ⟨g, i * 1 + j, none⟩ = some u := fun j u hj => by
    rw [show (W1.setCells w.heap.size (i * 1) (intC x)).drew.cell? ⟨g, i * 1 + j, none⟩ = (W1.setCells w.heap.size (i * 1) (intC x)).cell? ⟨g, i * 1 + j, none⟩ from rfl, hW1, Blk.cell (Blk.sets_other (by omega) _ _ _ ((show Blk w.drew g cur 3 from hkk).alloc _)), <- Blk.cell hkk]
    exact hcells j u hj
   have hcpB : ∀ ty dc sc, (Builtin.copy_ #[35, 35] ty #[.slice (some ⟨w.heap.size, (i + 1) * 1, none⟩) (l.length - i) dc, .slice (some ⟨g, i * 1, none⟩) (l.length - i) sc]).run Tryz.prog (W1.setCells w.heap.size (i * 1) (intC x)).drew = .ok _ ((W1.setCells w.heap.size (i * 1) (intC x)).drew.setCells w.heap.size ((i + 1) * 1) ((l.drop i).flatMap intC)) := fun ty dc sc =>
    run_copy_blk elemIntT (W1.setCells w.heap.size (i * 1) (intC x)).drew _ ty (cur := cur1) hk1w _ _ dc g _ _ sc _ (by rw [hdl]; congr 1; show l.length - i = min (l.length - i) (l.length - i); omega) hcells1 (by rw [hdl, hs1]; have h5 := mul_split (c := 1) (n := l.length + 1) (i := i + 1) (by omega); have h6 := Nat.mul_le_mul_right 1 hGn; rw [show l.length + 1 - (i + 1) = l.length - i by omega] at h5; omega) (flat_one intC_flat _)
   have hfinw := hfin _ (show Blk (W1.setCells w.heap.size (i * 1) (intC x)).drew w.heap.size cur1 3 from hk1w)
   have nx1 : Below base w W1 := by rw [hW1]; exact (Below.refl base w).drew.alloc (by simpa using hbase) _
   have nz2 := Wb.Below.sets w.heap.size hbase ((l.drop i).flatMap intC) ((i + 1) * 1) _ (Wb.Below.sets w.heap.size hbase (intC x) (i * 1) _ nx1).drew
   rw [<- hW1] at hrz
   (try simp only [Nat.mul_one] at hfinw); (try simp only [Nat.mul_one] at nz2); (try simp only [Nat.mul_one] at hcpA); (try simp only [Nat.mul_one] at hcpB)
   replace hfinw := hid hfinw; replace nz2 := hid nz2; replace hW1 := hid hW1; replace hcpB := hid hcpB
   clear hcells hcells1 hdl htk hsz hkk hx h hfin hxc hxc1 hk0 hk0' hk0w hk1 hk1w hs0 hs1 nx1 hrow hZ
   go_enter Tryz.func134, Tryz.ntmps134
   go_wp2_with (at_builtin; refine wpList_appR rfl _ _ _ _ rfl (hrz _) rfl rfl ?_)
   go_region_law (refine step_copyR rfl _ _ 35 35 rfl (hcpB.out 3 (G - (i + 1)) (l.length - i)) (by simp [Act.eval, Act.put]) (by simp [Act.eval, Act.put]) ?_)
   all_goals go_wp2
   all_goals go_ret
   all_goals exact ⟨_, rfl, hfinw.out, nz2.out⟩
theorem txn_put (l : List Cpy) (b : Int) (s : ByteArray) (v : Value) (w : World) (hs : rise (blks l) = true) (h : RL cpyC w v l) (hl : l.length <= 1000000) :
    Calls Tryz.prog 131 #[v, .int .i64 b, .string s] w fun e w' => ∃ v', e = .returned v' /\ Wb.Own cpyC w.heap.size 92 2 w' v' (putL l b s) /\ Below w.heap.size w w' := by
 have hF := hid (txn_find l b v w hs h (by omega))
 have hC := hid (fun w' (hb : Below w.heap.size w w') => slices_CloneC l v w' (h.below hb) (by omega))
 have hha := has_at (b := b) hs
 obtain ⟨_, _, hp⟩ := pos_at b hs
 obtain ⟨a, cap, rfl, _⟩ := h.form
 unfold putL
 generalize posB l b = p at *
 cases hb : hasB l b with
 | true =>
  rw [hb] at hF
  obtain ⟨hk, hkb⟩ := hha.1 hb
  rw [if_pos rfl]
  have hy : cpyC ⟨b, s⟩ = (cpyC l[p]).set 1 (.string s) := by simp [cpyC, hkb]
  replace hy := hid hy
  clear hs h hha hb hp
  go_enter Tryz.func131, Tryz.ntmps131
  go_wp2_with (first
   | (go_at_call 114; ((with_reducible refine hF.out.mono ?_); rintro e w1 ⟨rfl, hb1⟩))
   | (go_at_call 43; ((with_reducible refine (hC.out _ hb1).mono ?_); rintro e w2 ⟨v2, rfl, ho2, hb2⟩; obtain ⟨g, cap2, rfl, hbg, hgw, hq, hnew⟩ := Own.poke cpyC_flat ho2 hk; have q0 := (hq 1 (by decide)).1; have q1 := (hq 1 (by decide)).2; have hn2 := hid (hnew 1 _ _ (by decide) hy.out); have nx := hb1.trans (hb2.mono hb1.size); have hgs := Nat.le_trans hb1.size hbg; simp only [cpyC, List.getElem?_cons_succ, List.getElem?_cons_zero] at q1; replace nx := hid nx; clear hq hnew ho2)))
  go_ret
  exact ⟨_, rfl, hn2.out.mono hb1.size, nx.out.setCell hgs _⟩
 | false =>
  rw [hb] at hF
  rw [if_neg (by decide)]
  clear hs h hha hb
  go_enter Tryz.func131, Tryz.ntmps131
  go_wp2_with (first
   | (go_at_call 114; ((with_reducible refine hF.out.mono ?_); rintro e w1 ⟨rfl, hb1⟩))
   | (go_at_call 43; ((with_reducible refine (hC.out _ hb1).mono ?_); rintro e w2 ⟨v2, rfl, ho2, hb2⟩; have hlt2 := World.ownsRow.lt ho2; have hbase := hb1.trans (hb2.mono hb1.size); have ho3 := hid (ho2.mono hb1.size); have hI := hid (slices_InsertC l p ⟨b, s⟩ v2 w2.heap.size w.heap.size (w2.alloc (.cells #[.int .i64 b, .string s] 92)) (ho3.out.alloc _) (by have := hbase.size; simp; omega) (Blk.new w2 _ _) (fun hh => by have := (hlt2 _ hh).2; omega) hp hl); obtain ⟨a2, cap2, rfl⟩ := ho2.form; replace hbase := hid hbase; clear hlt2 ho2))
   | (go_at_call 165; ((with_reducible refine hI.out.mono ?_); rintro e w3 ⟨v3, rfl, ho4, hb3⟩)))
  go_ret
  exact ⟨_, rfl, ho4, (hbase.out.alloc (by have := hbase.out.size; omega) _).trans hb3⟩
theorem txn_may (t : Txn) (h b : Int) (v : Value) (w : World) (ht : RTxn w v t) :
    Calls Tryz.prog 127 #[v, .int .i64 h, .int .i64 b] w fun e w' => e = .returned (.int .i64 (mayE t h b)) /\ Below w.heap.size w w' := by
 have hG0 := fun w' (hh : Below w.heap.size w w') => txn_Good t _ w' (ht.below hh)
 obtain ⟨vm, vd, vr, rfl, hm, hd, hr, n1, n2, n3⟩ := ht
 obtain ⟨am, cm, rfl, _⟩ := hm.form
 obtain ⟨ad, cd, rfl, _⟩ := hd.form
 obtain ⟨ar, cr, rfl, _⟩ := hr.form
 have hH := fun w => txn_handle h w
 have hB := fun w => txn_block b w
 obtain ⟨seq, mt, dt, rev, ⟨o0, l0⟩, ⟨o1, l1⟩, ⟨o2, l2⟩⟩ := t
 unfold txnV at hG0 ⊢
 dsimp only at *
 have k0 : Blk (w.alloc (.cells #[.int .i64 seq, .slice am mt.length cm, .slice ad dt.length cd, .slice ar rev.length cr, .bool o0, .int .i64 l0, .bool o1, .int .i64 l1, .bool o2, .int .i64 l2] 40)) w.heap.size #[.int .i64 seq, .slice am mt.length cm, .slice ad dt.length cd, .slice ar rev.length cr, .bool o0, .int .i64 l0, .bool o1, .int .i64 l1, .bool o2, .int .i64 l2] 40 := Blk.new w _ _
 have nx := bal (b0 w) (.cells #[.int .i64 seq, .slice am mt.length cm, .slice ad dt.length cd, .slice ar rev.length cr, .bool o0, .int .i64 l0, .bool o1, .int .i64 l1, .bool o2, .int .i64 l2] 40)
 obtain ⟨e0, e1, e2, e3, e4, e5, e6, e7, e8, e9⟩ := k0.c10; have l0' := k0.lt
 clear hm hd hr
 cases hg : goodT ⟨seq, mt, dt, rev, ⟨o0, l0⟩, ⟨o1, l1⟩, ⟨o2, l2⟩⟩ with
 | false =>
  have hv := hid (may_bad (h := h) (b := b) hg)
  rw [hg] at hG0
  have hG := hid hG0
  clear hg hG0 hH hB
  go_enter Tryz.func127, Tryz.ntmps127
  go_wp2_with (go_at_call 30; ((with_reducible refine (hG.out _ nx).mono ?_); rintro e w1 ⟨rfl, hb1⟩; replace k0 := k0.step hb1; replace nx := bgo nx hb1; clear e0 e1 e2 e3 e4 e5 e6 e7 e8 e9 l0'; obtain ⟨e0, e1, e2, e3, e4, e5, e6, e7, e8, e9⟩ := k0.c10; have l0' := k0.lt))
  go_ret
  exact ⟨ret_i hv.out.symm, nx⟩
 | true =>
  rw [hg] at hG0
  have hG := hid hG0
  clear hG0
  by_cases hh : 0 <= h /\ h <= 2
  rotate_left
  ·have hv := hid (may_none (b := b) hg (.inl hh))
   have hhf : isHnd h = false := decide_eq_false (by omega)
   rw [hhf] at hH
   replace hH := hid hH
   clear hhf hg hB
   by_cases hneg : h < 0
   ·clear hh
    go_enter Tryz.func127, Tryz.ntmps127
    go_wp2_with (go_at_call 30; ((with_reducible refine (hG.out _ nx).mono ?_); rintro e w1 ⟨rfl, hb1⟩; replace k0 := k0.step hb1; replace nx := bgo nx hb1; clear e0 e1 e2 e3 e4 e5 e6 e7 e8 e9 l0'; obtain ⟨e0, e1, e2, e3, e4, e5, e6, e7, e8, e9⟩ := k0.c10; have l0' := k0.lt))
    go_wp2_with (first | (go_at_call 126; ((with_reducible refine (hH.out _).mono ?_); rintro e w1 ⟨rfl, rfl⟩)) | (go_at_call 71; ((with_reducible refine (hB.out _).mono ?_); rintro e w1 ⟨rfl, rfl⟩)))
    go_ret
    exact ⟨ret_i hv.out.symm, nx⟩
   ·have hgt : 2 < h := by omega
    clear hh
    go_enter Tryz.func127, Tryz.ntmps127
    go_wp2_with (go_at_call 30; ((with_reducible refine (hG.out _ nx).mono ?_); rintro e w1 ⟨rfl, hb1⟩; replace k0 := k0.step hb1; replace nx := bgo nx hb1; clear e0 e1 e2 e3 e4 e5 e6 e7 e8 e9 l0'; obtain ⟨e0, e1, e2, e3, e4, e5, e6, e7, e8, e9⟩ := k0.c10; have l0' := k0.lt))
    go_wp2_with (first | (go_at_call 126; ((with_reducible refine (hH.out _).mono ?_); rintro e w1 ⟨rfl, rfl⟩)) | (go_at_call 71; ((with_reducible refine (hB.out _).mono ?_); rintro e w1 ⟨rfl, rfl⟩)))
    go_ret
    exact ⟨ret_i hv.out.symm, nx⟩
  have hht : isHnd h = true := decide_eq_true (by omega)
  rw [hht] at hH
  replace hH := hid hH
  clear hht
  obtain (rfl | rfl | rfl) : h = 0 \/ h = 1 \/ h = 2 := by omega
  ·cases o0 with
   | false =>
    have hv := hid (may_none (h := 0) (b := b) hg (.inr (.inl (by simp [getH]))))
    clear hg hh hB
    go_enter Tryz.func127, Tryz.ntmps127
    go_wp2_with (go_at_call 30; ((with_reducible refine (hG.out _ nx).mono ?_); rintro e w1 ⟨rfl, hb1⟩; replace k0 := k0.step hb1; replace nx := bgo nx hb1; clear e0 e1 e2 e3 e4 e5 e6 e7 e8 e9 l0'; obtain ⟨e0, e1, e2, e3, e4, e5, e6, e7, e8, e9⟩ := k0.c10; have l0' := k0.lt))
    go_wp2_with (first | (go_at_call 126; ((with_reducible refine (hH.out _).mono ?_); rintro e w1 ⟨rfl, rfl⟩)) | (go_at_call 71; ((with_reducible refine (hB.out _).mono ?_); rintro e w1 ⟨rfl, rfl⟩)))
    go_ret
    exact ⟨ret_i hv.out.symm, nx⟩
   | true =>
    cases hbb : isBlk b with
    | false =>
     have hv := hid (may_none (h := 0) (b := b) hg (.inr (.inr hbb)))
     rw [hbb] at hB
     replace hB := hid hB
     clear hg hh hbb
     go_enter Tryz.func127, Tryz.ntmps127
     go_wp2_with (go_at_call 30; ((with_reducible refine (hG.out _ nx).mono ?_); rintro e w1 ⟨rfl, hb1⟩; replace k0 := k0.step hb1; replace nx := bgo nx hb1; clear e0 e1 e2 e3 e4 e5 e6 e7 e8 e9 l0'; obtain ⟨e0, e1, e2, e3, e4, e5, e6, e7, e8, e9⟩ := k0.c10; have l0' := k0.lt))
     go_wp2_with (first | (go_at_call 126; ((with_reducible refine (hH.out _).mono ?_); rintro e w1 ⟨rfl, rfl⟩)) | (go_at_call 71; ((with_reducible refine (hB.out _).mono ?_); rintro e w1 ⟨rfl, rfl⟩)))
     go_ret
     exact ⟨ret_i hv.out.symm, nx⟩
    | true =>
     have hv := hid (may_ok (h := 0) (b := b) hg (by decide) (by simp [getH]) hbb)
     rw [hbb] at hB
     replace hB := hid hB
     clear hg hh hbb
     go_enter Tryz.func127, Tryz.ntmps127
     go_wp2_with (go_at_call 30; ((with_reducible refine (hG.out _ nx).mono ?_); rintro e w1 ⟨rfl, hb1⟩; replace k0 := k0.step hb1; replace nx := bgo nx hb1; clear e0 e1 e2 e3 e4 e5 e6 e7 e8 e9 l0'; obtain ⟨e0, e1, e2, e3, e4, e5, e6, e7, e8, e9⟩ := k0.c10; have l0' := k0.lt))
     go_wp2_with (first | (go_at_call 126; ((with_reducible refine (hH.out _).mono ?_); rintro e w1 ⟨rfl, rfl⟩)) | (go_at_call 71; ((with_reducible refine (hB.out _).mono ?_); rintro e w1 ⟨rfl, rfl⟩)))
     go_ret
     exact ⟨ret_i hv.out.symm, nx⟩
  ·cases o1 with
   | false =>
    have hv := hid (may_none (h := 1) (b := b) hg (.inr (.inl (by simp [getH]))))
    clear hg hh hB
    go_enter Tryz.func127, Tryz.ntmps127
    go_wp2_with (go_at_call 30; ((with_reducible refine (hG.out _ nx).mono ?_); rintro e w1 ⟨rfl, hb1⟩; replace k0 := k0.step hb1; replace nx := bgo nx hb1; clear e0 e1 e2 e3 e4 e5 e6 e7 e8 e9 l0'; obtain ⟨e0, e1, e2, e3, e4, e5, e6, e7, e8, e9⟩ := k0.c10; have l0' := k0.lt))
    go_wp2_with (first | (go_at_call 126; ((with_reducible refine (hH.out _).mono ?_); rintro e w1 ⟨rfl, rfl⟩)) | (go_at_call 71; ((with_reducible refine (hB.out _).mono ?_); rintro e w1 ⟨rfl, rfl⟩)))
    go_ret
    exact ⟨ret_i hv.out.symm, nx⟩
   | true =>
    cases hbb : isBlk b with
    | false =>
     have hv := hid (may_none (h := 1) (b := b) hg (.inr (.inr hbb)))
     rw [hbb] at hB
     replace hB := hid hB
     clear hg hh hbb
     go_enter Tryz.func127, Tryz.ntmps127
     go_wp2_with (go_at_call 30; ((with_reducible refine (hG.out _ nx).mono ?_); rintro e w1 ⟨rfl, hb1⟩; replace k0 := k0.step hb1; replace nx := bgo nx hb1; clear e0 e1 e2 e3 e4 e5 e6 e7 e8 e9 l0'; obtain ⟨e0, e1, e2, e3, e4, e5, e6, e7, e8, e9⟩ := k0.c10; have l0' := k0.lt))
     go_wp2_with (first | (go_at_call 126; ((with_reducible refine (hH.out _).mono ?_); rintro e w1 ⟨rfl, rfl⟩)) | (go_at_call 71; ((with_reducible refine (hB.out _).mono ?_); rintro e w1 ⟨rfl, rfl⟩)))
     go_ret
     exact ⟨ret_i hv.out.symm, nx⟩
    | true =>
     have hv := hid (may_ok (h := 1) (b := b) hg (by decide) (by simp [getH]) hbb)
     rw [hbb] at hB
     replace hB := hid hB
     clear hg hh hbb
     go_enter Tryz.func127, Tryz.ntmps127
     go_wp2_with (go_at_call 30; ((with_reducible refine (hG.out _ nx).mono ?_); rintro e w1 ⟨rfl, hb1⟩; replace k0 := k0.step hb1; replace nx := bgo nx hb1; clear e0 e1 e2 e3 e4 e5 e6 e7 e8 e9 l0'; obtain ⟨e0, e1, e2, e3, e4, e5, e6, e7, e8, e9⟩ := k0.c10; have l0' := k0.lt))
     go_wp2_with (first | (go_at_call 126; ((with_reducible refine (hH.out _).mono ?_); rintro e w1 ⟨rfl, rfl⟩)) | (go_at_call 71; ((with_reducible refine (hB.out _).mono ?_); rintro e w1 ⟨rfl, rfl⟩)))
     go_ret
     exact ⟨ret_i hv.out.symm, nx⟩
  ·cases o2 with
   | false =>
    have hv := hid (may_none (h := 2) (b := b) hg (.inr (.inl (by simp [getH]))))
    clear hg hh hB
    go_enter Tryz.func127, Tryz.ntmps127
    go_wp2_with (go_at_call 30; ((with_reducible refine (hG.out _ nx).mono ?_); rintro e w1 ⟨rfl, hb1⟩; replace k0 := k0.step hb1; replace nx := bgo nx hb1; clear e0 e1 e2 e3 e4 e5 e6 e7 e8 e9 l0'; obtain ⟨e0, e1, e2, e3, e4, e5, e6, e7, e8, e9⟩ := k0.c10; have l0' := k0.lt))
    go_wp2_with (first | (go_at_call 126; ((with_reducible refine (hH.out _).mono ?_); rintro e w1 ⟨rfl, rfl⟩)) | (go_at_call 71; ((with_reducible refine (hB.out _).mono ?_); rintro e w1 ⟨rfl, rfl⟩)))
    go_ret
    exact ⟨ret_i hv.out.symm, nx⟩
   | true =>
    cases hbb : isBlk b with
    | false =>
     have hv := hid (may_none (h := 2) (b := b) hg (.inr (.inr hbb)))
     rw [hbb] at hB
     replace hB := hid hB
     clear hg hh hbb
     go_enter Tryz.func127, Tryz.ntmps127
     go_wp2_with (go_at_call 30; ((with_reducible refine (hG.out _ nx).mono ?_); rintro e w1 ⟨rfl, hb1⟩; replace k0 := k0.step hb1; replace nx := bgo nx hb1; clear e0 e1 e2 e3 e4 e5 e6 e7 e8 e9 l0'; obtain ⟨e0, e1, e2, e3, e4, e5, e6, e7, e8, e9⟩ := k0.c10; have l0' := k0.lt))
     go_wp2_with (first | (go_at_call 126; ((with_reducible refine (hH.out _).mono ?_); rintro e w1 ⟨rfl, rfl⟩)) | (go_at_call 71; ((with_reducible refine (hB.out _).mono ?_); rintro e w1 ⟨rfl, rfl⟩)))
     go_ret
     exact ⟨ret_i hv.out.symm, nx⟩
    | true =>
     have hv := hid (may_ok (h := 2) (b := b) hg (by decide) (by simp [getH]) hbb)
     rw [hbb] at hB
     replace hB := hid hB
     clear hg hh hbb
     go_enter Tryz.func127, Tryz.ntmps127
     go_wp2_with (go_at_call 30; ((with_reducible refine (hG.out _ nx).mono ?_); rintro e w1 ⟨rfl, hb1⟩; replace k0 := k0.step hb1; replace nx := bgo nx hb1; clear e0 e1 e2 e3 e4 e5 e6 e7 e8 e9 l0'; obtain ⟨e0, e1, e2, e3, e4, e5, e6, e7, e8, e9⟩ := k0.c10; have l0' := k0.lt))
     go_wp2_with (first | (go_at_call 126; ((with_reducible refine (hH.out _).mono ?_); rintro e w1 ⟨rfl, rfl⟩)) | (go_at_call 71; ((with_reducible refine (hB.out _).mono ?_); rintro e w1 ⟨rfl, rfl⟩)))
     go_ret
     exact ⟨ret_i hv.out.symm, nx⟩
theorem txn_pay_free0 (seq : Int) (mt dt : List Cpy) (rev : List Int) (o0 o1 o2 : Bool) (l0 l1 l2 : Int) (am ad ar : Option Addr) (cm cd cr : Nat) (b : Int) (g : Nat) (w : World) (k0 : Blk w g #[.int .i64 seq, .slice am mt.length cm, .slice ad dt.length cd, .slice ar rev.length cr, .bool o0, .int .i64 l0, .bool o1, .int .i64 l1, .bool o2, .int .i64 l2] 40) (hs : rise (blks mt) = true) (hm : RL cpyC w (.slice am mt.length cm) mt) (hr : RL intC w (.slice ar rev.length cr) rev) (n1 : mt.length <= 5864062014805) (n3 : rev.length <= 17592186044160) (hf : (hasB mt b || inI rev b) = true) :
    Calls Tryz.prog 128 #[.pointer (some ⟨g, 0, none⟩), .int .i64 0, .int .i64 b] w fun e w' => e = .returned (.int .i64 0) /\ Below w.heap.size w w' := by
 have hM := txn_has mt b _ w hs hm n1
 have hC := hid (fun w' (hh : RL intC w' (.slice ar rev.length cr) rev) => slices_ContainsI rev b _ w' hh n3)
 replace hr := hid hr
 obtain ⟨e0, e1, e2, e3, e4, e5, e6, e7, e8, e9⟩ := k0.c10; have l0' := k0.lt; have f5 := k0.free 5; have f7 := k0.free 7; have f9 := k0.free 9
 clear hm hs
 cases hb : hasB mt b with
 | true =>
  rw [hb] at hM
  replace hM := hid hM
  clear hb hf
  go_enter Tryz.func128, Tryz.ntmps128
  go_wp2_with (go_at_call 72; ((with_reducible refine hM.out.mono ?_); rintro e w1 ⟨rfl, hb1⟩; replace k0 := k0.step hb1; have nx := hb1; have hr1 := hid (hr.out.below hb1); replace hC := hid (hC.out _ hr1.out); clear e0 e1 e2 e3 e4 e5 e6 e7 e8 e9 l0' f5 f7 f9; obtain ⟨e0, e1, e2, e3, e4, e5, e6, e7, e8, e9⟩ := k0.c10; have l0' := k0.lt; have f5 := k0.free 5; have f7 := k0.free 7; have f9 := k0.free 9))
  go_ret
  exact ⟨rfl, nx⟩
 | false =>
  rw [hb] at hM hf
  rw [Bool.false_or] at hf
  rw [hf] at hC
  replace hM := hid hM
  clear hb hf
  go_enter Tryz.func128, Tryz.ntmps128
  go_wp2_with (first | (go_at_call 72; ((with_reducible refine hM.out.mono ?_); rintro e w1 ⟨rfl, hb1⟩; replace k0 := k0.step hb1; have nx := hb1; have hr1 := hid (hr.out.below hb1); replace hC := hid (hC.out _ hr1.out); clear e0 e1 e2 e3 e4 e5 e6 e7 e8 e9 l0' f5 f7 f9; obtain ⟨e0, e1, e2, e3, e4, e5, e6, e7, e8, e9⟩ := k0.c10; have l0' := k0.lt; have f5 := k0.free 5; have f7 := k0.free 7; have f9 := k0.free 9)) | (go_at_call 125; ((with_reducible refine hC.out.mono ?_); rintro e w2 ⟨rfl, rfl⟩)))
  go_ret
  exact ⟨rfl, nx⟩
theorem txn_pay_none0 (seq : Int) (mt dt : List Cpy) (rev : List Int) (o0 o1 o2 : Bool) (l0 l1 l2 : Int) (am ad ar : Option Addr) (cm cd cr : Nat) (b : Int) (g : Nat) (w : World) (k0 : Blk w g #[.int .i64 seq, .slice am mt.length cm, .slice ad dt.length cd, .slice ar rev.length cr, .bool o0, .int .i64 l0, .bool o1, .int .i64 l1, .bool o2, .int .i64 l2] 40) (hs : rise (blks mt) = true) (hm : RL cpyC w (.slice am mt.length cm) mt) (hr : RL intC w (.slice ar rev.length cr) rev) (n1 : mt.length <= 5864062014805) (n3 : rev.length <= 17592186044160) (hf : (hasB mt b || inI rev b) = false) (h0 : l0 = 0) :
    Calls Tryz.prog 128 #[.pointer (some ⟨g, 0, none⟩), .int .i64 0, .int .i64 b] w fun e w' => e = .returned (.int .i64 7) /\ Below w.heap.size w w' := by
 have hM := txn_has mt b _ w hs hm n1
 have hC := hid (fun w' (hh : RL intC w' (.slice ar rev.length cr) rev) => slices_ContainsI rev b _ w' hh n3)
 replace hr := hid hr
 obtain ⟨e0, e1, e2, e3, e4, e5, e6, e7, e8, e9⟩ := k0.c10; have l0' := k0.lt; have f5 := k0.free 5; have f7 := k0.free 7; have f9 := k0.free 9
 clear hm hs
 obtain ⟨hb, hf⟩ := Bool.or_eq_false_iff.1 hf
 rw [hb] at hM
 rw [hf] at hC
 replace hM := hid hM
 subst h0
 clear hb hf
 go_enter Tryz.func128, Tryz.ntmps128
 go_wp2_with (first | (go_at_call 72; ((with_reducible refine hM.out.mono ?_); rintro e w1 ⟨rfl, hb1⟩; replace k0 := k0.step hb1; have nx := hb1; have hr1 := hid (hr.out.below hb1); replace hC := hid (hC.out _ hr1.out); clear e0 e1 e2 e3 e4 e5 e6 e7 e8 e9 l0' f5 f7 f9; obtain ⟨e0, e1, e2, e3, e4, e5, e6, e7, e8, e9⟩ := k0.c10; have l0' := k0.lt; have f5 := k0.free 5; have f7 := k0.free 7; have f9 := k0.free 9)) | (go_at_call 125; ((with_reducible refine hC.out.mono ?_); rintro e w2 ⟨rfl, rfl⟩)))
 go_ret
 exact ⟨rfl, nx⟩
theorem txn_pay_one0 (seq : Int) (mt dt : List Cpy) (rev : List Int) (o0 o1 o2 : Bool) (l0 l1 l2 : Int) (am ad ar : Option Addr) (cm cd cr : Nat) (b : Int) (g : Nat) (w : World) (k0 : Blk w g #[.int .i64 seq, .slice am mt.length cm, .slice ad dt.length cd, .slice ar rev.length cr, .bool o0, .int .i64 l0, .bool o1, .int .i64 l1, .bool o2, .int .i64 l2] 40) (hs : rise (blks mt) = true) (hm : RL cpyC w (.slice am mt.length cm) mt) (hr : RL intC w (.slice ar rev.length cr) rev) (n1 : mt.length <= 5864062014805) (n3 : rev.length <= 17592186044160) (hf : (hasB mt b || inI rev b) = false) (h0 : 0 < l0) (h1 : l0 <= 24) :
    Calls Tryz.prog 128 #[.pointer (some ⟨g, 0, none⟩), .int .i64 0, .int .i64 b] w fun e w' => e = .returned (.int .i64 0) /\ ∃ w1, Below w.heap.size w w1 /\ w' = w1.setCell ⟨g, 5, none⟩ (.int .i64 (l0 - 1)) := by
 have hM := txn_has mt b _ w hs hm n1
 have hC := hid (fun w' (hh : RL intC w' (.slice ar rev.length cr) rev) => slices_ContainsI rev b _ w' hh n3)
 replace hr := hid hr
 obtain ⟨e0, e1, e2, e3, e4, e5, e6, e7, e8, e9⟩ := k0.c10; have l0' := k0.lt; have f5 := k0.free 5; have f7 := k0.free 7; have f9 := k0.free 9
 clear hm hs
 obtain ⟨hb, hf⟩ := Bool.or_eq_false_iff.1 hf
 have hnz : ¬ l0 = 0 := by omega
 have hwr : IntKind.i64.wrap (l0 - 1) = l0 - 1 := IntWalk.i64_in _ (by omega)
 rw [hb] at hM
 rw [hf] at hC
 replace hM := hid hM
 clear hb hf
 go_enter Tryz.func128, Tryz.ntmps128
 go_wp2_with (first | (go_at_call 72; ((with_reducible refine hM.out.mono ?_); rintro e w1 ⟨rfl, hb1⟩; replace k0 := k0.step hb1; have nx := hb1; have hr1 := hid (hr.out.below hb1); replace hC := hid (hC.out _ hr1.out); clear e0 e1 e2 e3 e4 e5 e6 e7 e8 e9 l0' f5 f7 f9; obtain ⟨e0, e1, e2, e3, e4, e5, e6, e7, e8, e9⟩ := k0.c10; have l0' := k0.lt; have f5 := k0.free 5; have f7 := k0.free 7; have f9 := k0.free 9)) | (go_at_call 125; ((with_reducible refine hC.out.mono ?_); rintro e w2 ⟨rfl, rfl⟩)))
 go_region_law (fail "no call")
 all_goals go_wp2
 all_goals go_ret
 all_goals exact ⟨rfl, _, nx.drew, rfl⟩
theorem txn_pay_free1 (seq : Int) (mt dt : List Cpy) (rev : List Int) (o0 o1 o2 : Bool) (l0 l1 l2 : Int) (am ad ar : Option Addr) (cm cd cr : Nat) (b : Int) (g : Nat) (w : World) (k0 : Blk w g #[.int .i64 seq, .slice am mt.length cm, .slice ad dt.length cd, .slice ar rev.length cr, .bool o0, .int .i64 l0, .bool o1, .int .i64 l1, .bool o2, .int .i64 l2] 40) (hs : rise (blks mt) = true) (hm : RL cpyC w (.slice am mt.length cm) mt) (hr : RL intC w (.slice ar rev.length cr) rev) (n1 : mt.length <= 5864062014805) (n3 : rev.length <= 17592186044160) (hf : (hasB mt b || inI rev b) = true) :
    Calls Tryz.prog 128 #[.pointer (some ⟨g, 0, none⟩), .int .i64 1, .int .i64 b] w fun e w' => e = .returned (.int .i64 0) /\ Below w.heap.size w w' := by
 have hM := txn_has mt b _ w hs hm n1
 have hC := hid (fun w' (hh : RL intC w' (.slice ar rev.length cr) rev) => slices_ContainsI rev b _ w' hh n3)
 replace hr := hid hr
 obtain ⟨e0, e1, e2, e3, e4, e5, e6, e7, e8, e9⟩ := k0.c10; have l0' := k0.lt; have f5 := k0.free 5; have f7 := k0.free 7; have f9 := k0.free 9
 clear hm hs
 cases hb : hasB mt b with
 | true =>
  rw [hb] at hM
  replace hM := hid hM
  clear hb hf
  go_enter Tryz.func128, Tryz.ntmps128
  go_wp2_with (go_at_call 72; ((with_reducible refine hM.out.mono ?_); rintro e w1 ⟨rfl, hb1⟩; replace k0 := k0.step hb1; have nx := hb1; have hr1 := hid (hr.out.below hb1); replace hC := hid (hC.out _ hr1.out); clear e0 e1 e2 e3 e4 e5 e6 e7 e8 e9 l0' f5 f7 f9; obtain ⟨e0, e1, e2, e3, e4, e5, e6, e7, e8, e9⟩ := k0.c10; have l0' := k0.lt; have f5 := k0.free 5; have f7 := k0.free 7; have f9 := k0.free 9))
  go_ret
  exact ⟨rfl, nx⟩
 | false =>
  rw [hb] at hM hf
  rw [Bool.false_or] at hf
  rw [hf] at hC
  replace hM := hid hM
  clear hb hf
  go_enter Tryz.func128, Tryz.ntmps128
  go_wp2_with (first | (go_at_call 72; ((with_reducible refine hM.out.mono ?_); rintro e w1 ⟨rfl, hb1⟩; replace k0 := k0.step hb1; have nx := hb1; have hr1 := hid (hr.out.below hb1); replace hC := hid (hC.out _ hr1.out); clear e0 e1 e2 e3 e4 e5 e6 e7 e8 e9 l0' f5 f7 f9; obtain ⟨e0, e1, e2, e3, e4, e5, e6, e7, e8, e9⟩ := k0.c10; have l0' := k0.lt; have f5 := k0.free 5; have f7 := k0.free 7; have f9 := k0.free 9)) | (go_at_call 125; ((with_reducible refine hC.out.mono ?_); rintro e w2 ⟨rfl, rfl⟩)))
  go_ret
  exact ⟨rfl, nx⟩
theorem txn_pay_none1 (seq : Int) (mt dt : List Cpy) (rev : List Int) (o0 o1 o2 : Bool) (l0 l1 l2 : Int) (am ad ar : Option Addr) (cm cd cr : Nat) (b : Int) (g : Nat) (w : World) (k0 : Blk w g #[.int .i64 seq, .slice am mt.length cm, .slice ad dt.length cd, .slice ar rev.length cr, .bool o0, .int .i64 l0, .bool o1, .int .i64 l1, .bool o2, .int .i64 l2] 40) (hs : rise (blks mt) = true) (hm : RL cpyC w (.slice am mt.length cm) mt) (hr : RL intC w (.slice ar rev.length cr) rev) (n1 : mt.length <= 5864062014805) (n3 : rev.length <= 17592186044160) (hf : (hasB mt b || inI rev b) = false) (h0 : l1 = 0) :
    Calls Tryz.prog 128 #[.pointer (some ⟨g, 0, none⟩), .int .i64 1, .int .i64 b] w fun e w' => e = .returned (.int .i64 7) /\ Below w.heap.size w w' := by
 have hM := txn_has mt b _ w hs hm n1
 have hC := hid (fun w' (hh : RL intC w' (.slice ar rev.length cr) rev) => slices_ContainsI rev b _ w' hh n3)
 replace hr := hid hr
 obtain ⟨e0, e1, e2, e3, e4, e5, e6, e7, e8, e9⟩ := k0.c10; have l0' := k0.lt; have f5 := k0.free 5; have f7 := k0.free 7; have f9 := k0.free 9
 clear hm hs
 obtain ⟨hb, hf⟩ := Bool.or_eq_false_iff.1 hf
 rw [hb] at hM
 rw [hf] at hC
 replace hM := hid hM
 subst h0
 clear hb hf
 go_enter Tryz.func128, Tryz.ntmps128
 go_wp2_with (first | (go_at_call 72; ((with_reducible refine hM.out.mono ?_); rintro e w1 ⟨rfl, hb1⟩; replace k0 := k0.step hb1; have nx := hb1; have hr1 := hid (hr.out.below hb1); replace hC := hid (hC.out _ hr1.out); clear e0 e1 e2 e3 e4 e5 e6 e7 e8 e9 l0' f5 f7 f9; obtain ⟨e0, e1, e2, e3, e4, e5, e6, e7, e8, e9⟩ := k0.c10; have l0' := k0.lt; have f5 := k0.free 5; have f7 := k0.free 7; have f9 := k0.free 9)) | (go_at_call 125; ((with_reducible refine hC.out.mono ?_); rintro e w2 ⟨rfl, rfl⟩)))
 go_ret
 exact ⟨rfl, nx⟩
theorem txn_pay_one1 (seq : Int) (mt dt : List Cpy) (rev : List Int) (o0 o1 o2 : Bool) (l0 l1 l2 : Int) (am ad ar : Option Addr) (cm cd cr : Nat) (b : Int) (g : Nat) (w : World) (k0 : Blk w g #[.int .i64 seq, .slice am mt.length cm, .slice ad dt.length cd, .slice ar rev.length cr, .bool o0, .int .i64 l0, .bool o1, .int .i64 l1, .bool o2, .int .i64 l2] 40) (hs : rise (blks mt) = true) (hm : RL cpyC w (.slice am mt.length cm) mt) (hr : RL intC w (.slice ar rev.length cr) rev) (n1 : mt.length <= 5864062014805) (n3 : rev.length <= 17592186044160) (hf : (hasB mt b || inI rev b) = false) (h0 : 0 < l1) (h1 : l1 <= 24) :
    Calls Tryz.prog 128 #[.pointer (some ⟨g, 0, none⟩), .int .i64 1, .int .i64 b] w fun e w' => e = .returned (.int .i64 0) /\ ∃ w1, Below w.heap.size w w1 /\ w' = w1.setCell ⟨g, 7, none⟩ (.int .i64 (l1 - 1)) := by
 have hM := txn_has mt b _ w hs hm n1
 have hC := hid (fun w' (hh : RL intC w' (.slice ar rev.length cr) rev) => slices_ContainsI rev b _ w' hh n3)
 replace hr := hid hr
 obtain ⟨e0, e1, e2, e3, e4, e5, e6, e7, e8, e9⟩ := k0.c10; have l0' := k0.lt; have f5 := k0.free 5; have f7 := k0.free 7; have f9 := k0.free 9
 clear hm hs
 obtain ⟨hb, hf⟩ := Bool.or_eq_false_iff.1 hf
 have hnz : ¬ l1 = 0 := by omega
 have hwr : IntKind.i64.wrap (l1 - 1) = l1 - 1 := IntWalk.i64_in _ (by omega)
 rw [hb] at hM
 rw [hf] at hC
 replace hM := hid hM
 clear hb hf
 go_enter Tryz.func128, Tryz.ntmps128
 go_wp2_with (first | (go_at_call 72; ((with_reducible refine hM.out.mono ?_); rintro e w1 ⟨rfl, hb1⟩; replace k0 := k0.step hb1; have nx := hb1; have hr1 := hid (hr.out.below hb1); replace hC := hid (hC.out _ hr1.out); clear e0 e1 e2 e3 e4 e5 e6 e7 e8 e9 l0' f5 f7 f9; obtain ⟨e0, e1, e2, e3, e4, e5, e6, e7, e8, e9⟩ := k0.c10; have l0' := k0.lt; have f5 := k0.free 5; have f7 := k0.free 7; have f9 := k0.free 9)) | (go_at_call 125; ((with_reducible refine hC.out.mono ?_); rintro e w2 ⟨rfl, rfl⟩)))
 go_region_law (fail "no call")
 all_goals go_wp2
 all_goals go_ret
 all_goals exact ⟨rfl, _, nx.drew, rfl⟩
theorem txn_pay_free2 (seq : Int) (mt dt : List Cpy) (rev : List Int) (o0 o1 o2 : Bool) (l0 l1 l2 : Int) (am ad ar : Option Addr) (cm cd cr : Nat) (b : Int) (g : Nat) (w : World) (k0 : Blk w g #[.int .i64 seq, .slice am mt.length cm, .slice ad dt.length cd, .slice ar rev.length cr, .bool o0, .int .i64 l0, .bool o1, .int .i64 l1, .bool o2, .int .i64 l2] 40) (hs : rise (blks mt) = true) (hm : RL cpyC w (.slice am mt.length cm) mt) (hr : RL intC w (.slice ar rev.length cr) rev) (n1 : mt.length <= 5864062014805) (n3 : rev.length <= 17592186044160) (hf : (hasB mt b || inI rev b) = true) :
    Calls Tryz.prog 128 #[.pointer (some ⟨g, 0, none⟩), .int .i64 2, .int .i64 b] w fun e w' => e = .returned (.int .i64 0) /\ Below w.heap.size w w' := by
 have hM := txn_has mt b _ w hs hm n1
 have hC := hid (fun w' (hh : RL intC w' (.slice ar rev.length cr) rev) => slices_ContainsI rev b _ w' hh n3)
 replace hr := hid hr
 obtain ⟨e0, e1, e2, e3, e4, e5, e6, e7, e8, e9⟩ := k0.c10; have l0' := k0.lt; have f5 := k0.free 5; have f7 := k0.free 7; have f9 := k0.free 9
 clear hm hs
 cases hb : hasB mt b with
 | true =>
  rw [hb] at hM
  replace hM := hid hM
  clear hb hf
  go_enter Tryz.func128, Tryz.ntmps128
  go_wp2_with (go_at_call 72; ((with_reducible refine hM.out.mono ?_); rintro e w1 ⟨rfl, hb1⟩; replace k0 := k0.step hb1; have nx := hb1; have hr1 := hid (hr.out.below hb1); replace hC := hid (hC.out _ hr1.out); clear e0 e1 e2 e3 e4 e5 e6 e7 e8 e9 l0' f5 f7 f9; obtain ⟨e0, e1, e2, e3, e4, e5, e6, e7, e8, e9⟩ := k0.c10; have l0' := k0.lt; have f5 := k0.free 5; have f7 := k0.free 7; have f9 := k0.free 9))
  go_ret
  exact ⟨rfl, nx⟩
 | false =>
  rw [hb] at hM hf
  rw [Bool.false_or] at hf
  rw [hf] at hC
  replace hM := hid hM
  clear hb hf
  go_enter Tryz.func128, Tryz.ntmps128
  go_wp2_with (first | (go_at_call 72; ((with_reducible refine hM.out.mono ?_); rintro e w1 ⟨rfl, hb1⟩; replace k0 := k0.step hb1; have nx := hb1; have hr1 := hid (hr.out.below hb1); replace hC := hid (hC.out _ hr1.out); clear e0 e1 e2 e3 e4 e5 e6 e7 e8 e9 l0' f5 f7 f9; obtain ⟨e0, e1, e2, e3, e4, e5, e6, e7, e8, e9⟩ := k0.c10; have l0' := k0.lt; have f5 := k0.free 5; have f7 := k0.free 7; have f9 := k0.free 9)) | (go_at_call 125; ((with_reducible refine hC.out.mono ?_); rintro e w2 ⟨rfl, rfl⟩)))
  go_ret
  exact ⟨rfl, nx⟩
theorem txn_pay_none2 (seq : Int) (mt dt : List Cpy) (rev : List Int) (o0 o1 o2 : Bool) (l0 l1 l2 : Int) (am ad ar : Option Addr) (cm cd cr : Nat) (b : Int) (g : Nat) (w : World) (k0 : Blk w g #[.int .i64 seq, .slice am mt.length cm, .slice ad dt.length cd, .slice ar rev.length cr, .bool o0, .int .i64 l0, .bool o1, .int .i64 l1, .bool o2, .int .i64 l2] 40) (hs : rise (blks mt) = true) (hm : RL cpyC w (.slice am mt.length cm) mt) (hr : RL intC w (.slice ar rev.length cr) rev) (n1 : mt.length <= 5864062014805) (n3 : rev.length <= 17592186044160) (hf : (hasB mt b || inI rev b) = false) (h0 : l2 = 0) :
    Calls Tryz.prog 128 #[.pointer (some ⟨g, 0, none⟩), .int .i64 2, .int .i64 b] w fun e w' => e = .returned (.int .i64 7) /\ Below w.heap.size w w' := by
 have hM := txn_has mt b _ w hs hm n1
 have hC := hid (fun w' (hh : RL intC w' (.slice ar rev.length cr) rev) => slices_ContainsI rev b _ w' hh n3)
 replace hr := hid hr
 obtain ⟨e0, e1, e2, e3, e4, e5, e6, e7, e8, e9⟩ := k0.c10; have l0' := k0.lt; have f5 := k0.free 5; have f7 := k0.free 7; have f9 := k0.free 9
 clear hm hs
 obtain ⟨hb, hf⟩ := Bool.or_eq_false_iff.1 hf
 rw [hb] at hM
 rw [hf] at hC
 replace hM := hid hM
 subst h0
 clear hb hf
 go_enter Tryz.func128, Tryz.ntmps128
 go_wp2_with (first | (go_at_call 72; ((with_reducible refine hM.out.mono ?_); rintro e w1 ⟨rfl, hb1⟩; replace k0 := k0.step hb1; have nx := hb1; have hr1 := hid (hr.out.below hb1); replace hC := hid (hC.out _ hr1.out); clear e0 e1 e2 e3 e4 e5 e6 e7 e8 e9 l0' f5 f7 f9; obtain ⟨e0, e1, e2, e3, e4, e5, e6, e7, e8, e9⟩ := k0.c10; have l0' := k0.lt; have f5 := k0.free 5; have f7 := k0.free 7; have f9 := k0.free 9)) | (go_at_call 125; ((with_reducible refine hC.out.mono ?_); rintro e w2 ⟨rfl, rfl⟩)))
 go_ret
 exact ⟨rfl, nx⟩
theorem txn_pay_one2 (seq : Int) (mt dt : List Cpy) (rev : List Int) (o0 o1 o2 : Bool) (l0 l1 l2 : Int) (am ad ar : Option Addr) (cm cd cr : Nat) (b : Int) (g : Nat) (w : World) (k0 : Blk w g #[.int .i64 seq, .slice am mt.length cm, .slice ad dt.length cd, .slice ar rev.length cr, .bool o0, .int .i64 l0, .bool o1, .int .i64 l1, .bool o2, .int .i64 l2] 40) (hs : rise (blks mt) = true) (hm : RL cpyC w (.slice am mt.length cm) mt) (hr : RL intC w (.slice ar rev.length cr) rev) (n1 : mt.length <= 5864062014805) (n3 : rev.length <= 17592186044160) (hf : (hasB mt b || inI rev b) = false) (h0 : 0 < l2) (h1 : l2 <= 24) :
    Calls Tryz.prog 128 #[.pointer (some ⟨g, 0, none⟩), .int .i64 2, .int .i64 b] w fun e w' => e = .returned (.int .i64 0) /\ ∃ w1, Below w.heap.size w w1 /\ w' = w1.setCell ⟨g, 9, none⟩ (.int .i64 (l2 - 1)) := by
 have hM := txn_has mt b _ w hs hm n1
 have hC := hid (fun w' (hh : RL intC w' (.slice ar rev.length cr) rev) => slices_ContainsI rev b _ w' hh n3)
 replace hr := hid hr
 obtain ⟨e0, e1, e2, e3, e4, e5, e6, e7, e8, e9⟩ := k0.c10; have l0' := k0.lt; have f5 := k0.free 5; have f7 := k0.free 7; have f9 := k0.free 9
 clear hm hs
 obtain ⟨hb, hf⟩ := Bool.or_eq_false_iff.1 hf
 have hnz : ¬ l2 = 0 := by omega
 have hwr : IntKind.i64.wrap (l2 - 1) = l2 - 1 := IntWalk.i64_in _ (by omega)
 rw [hb] at hM
 rw [hf] at hC
 replace hM := hid hM
 clear hb hf
 go_enter Tryz.func128, Tryz.ntmps128
 go_wp2_with (first | (go_at_call 72; ((with_reducible refine hM.out.mono ?_); rintro e w1 ⟨rfl, hb1⟩; replace k0 := k0.step hb1; have nx := hb1; have hr1 := hid (hr.out.below hb1); replace hC := hid (hC.out _ hr1.out); clear e0 e1 e2 e3 e4 e5 e6 e7 e8 e9 l0' f5 f7 f9; obtain ⟨e0, e1, e2, e3, e4, e5, e6, e7, e8, e9⟩ := k0.c10; have l0' := k0.lt; have f5 := k0.free 5; have f7 := k0.free 7; have f9 := k0.free 9)) | (go_at_call 125; ((with_reducible refine hC.out.mono ?_); rintro e w2 ⟨rfl, rfl⟩)))
 go_region_law (fail "no call")
 all_goals go_wp2
 all_goals go_ret
 all_goals exact ⟨rfl, _, nx.drew, rfl⟩
end Go.Proofs.YtjhmfljlclajnacGreatDoor
namespace Wb
open Go Go.RowKit
def txnL (t : Txn) (vm vd vr : Value) : List Value := [.int .i64 t.seq, vm, vd, vr, .bool t.h0.on, .int .i64 t.h0.left, .bool t.h1.on, .int .i64 t.h1.left, .bool t.h2.on, .int .i64 t.h2.left]
end Wb
namespace Go.Proofs.YtjhmfljlclajnacGreatDoor
open Go.RowKit Wb
theorem txn_pay (t : Txn) (am ad ar : Option Addr) (cm cd cr : Nat) (h b : Int) (g : Nat) (w : World) (k0 : Blk w g (txnL t (.slice am t.mt.length cm) (.slice ad t.dt.length cd) (.slice ar t.rev.length cr)).toArray 40)
    (hg : GoodT t) (hm : RL cpyC w (.slice am t.mt.length cm) t.mt) (hr : RL intC w (.slice ar t.rev.length cr) t.rev) (hh : 0 <= h /\ h <= 2) :
    Calls Tryz.prog 128 #[.pointer (some ⟨g, 0, none⟩), .int .i64 h, .int .i64 b] w fun e w' => e = .returned (.int .i64 (payE t h b)) /\ Blk w' g (txnL (payU t h b) (.slice am t.mt.length cm) (.slice ad t.dt.length cd) (.slice ar t.rev.length cr)).toArray 40 /\ Mv [g] w w' := by
 obtain ⟨n1, _, n3⟩ := lens hg
 have hs := copies_rise hg.mt
 obtain ⟨l0, l1, l2⟩ := hnds_bd hg
 have hlt := k0.lt
 obtain ⟨seq, mt, dt, rev, ⟨o0, x0⟩, ⟨o1, x1⟩, ⟨o2, x2⟩⟩ := t
 dsimp only [txnL] at *
 unfold payU payE payT owed
 dsimp only
 cases hf : (hasB mt b || inI rev b) with
 | true =>
  rw [if_neg (by simp), if_pos rfl, if_neg (by simp)]
  obtain (rfl | rfl | rfl) : h = 0 \/ h = 1 \/ h = 2 := by omega
  ·refine (txn_pay_free0 seq mt dt rev o0 o1 o2 x0 x1 x2 am ad ar cm cd cr b g w k0 hs hm hr (by omega) (by omega) hf).mono ?_
   rintro e w' ⟨rfl, hb⟩
   exact ⟨rfl, k0.step hb, Mv.ofBelow hb⟩
  ·refine (txn_pay_free1 seq mt dt rev o0 o1 o2 x0 x1 x2 am ad ar cm cd cr b g w k0 hs hm hr (by omega) (by omega) hf).mono ?_
   rintro e w' ⟨rfl, hb⟩
   exact ⟨rfl, k0.step hb, Mv.ofBelow hb⟩
  ·refine (txn_pay_free2 seq mt dt rev o0 o1 o2 x0 x1 x2 am ad ar cm cd cr b g w k0 hs hm hr (by omega) (by omega) hf).mono ?_
   rintro e w' ⟨rfl, hb⟩
   exact ⟨rfl, k0.step hb, Mv.ofBelow hb⟩
 | false =>
  obtain (rfl | rfl | rfl) : h = 0 \/ h = 1 \/ h = 2 := by omega
  ·by_cases hz : x0 = 0
   ·rw [if_pos ⟨rfl, hz⟩, if_neg (by decide)]
    refine (txn_pay_none0 seq mt dt rev o0 o1 o2 x0 x1 x2 am ad ar cm cd cr b g w k0 hs hm hr (by omega) (by omega) hf hz).mono ?_
    rintro e w' ⟨rfl, hb⟩
    exact ⟨rfl, k0.step hb, Mv.ofBelow hb⟩
   ·rw [if_neg (fun hh => hz hh.2), if_pos rfl, if_pos (by simp)]
    refine (txn_pay_one0 seq mt dt rev o0 o1 o2 x0 x1 x2 am ad ar cm cd cr b g w k0 hs hm hr (by omega) (by omega) hf (by omega) (by omega)).mono ?_
    rintro e w' ⟨rfl, w1, hb, rfl⟩
    exact ⟨rfl, by simpa [setH, getH] using (k0.step hb).set 5 (.int .i64 (x0 - 1)), (Mv.ofBelow hb).then (Mv.set w1 ⟨g, 5, none⟩ _) (by simp)⟩
  ·by_cases hz : x1 = 0
   ·rw [if_pos ⟨rfl, hz⟩, if_neg (by decide)]
    refine (txn_pay_none1 seq mt dt rev o0 o1 o2 x0 x1 x2 am ad ar cm cd cr b g w k0 hs hm hr (by omega) (by omega) hf hz).mono ?_
    rintro e w' ⟨rfl, hb⟩
    exact ⟨rfl, k0.step hb, Mv.ofBelow hb⟩
   ·rw [if_neg (fun hh => hz hh.2), if_pos rfl, if_pos (by simp)]
    refine (txn_pay_one1 seq mt dt rev o0 o1 o2 x0 x1 x2 am ad ar cm cd cr b g w k0 hs hm hr (by omega) (by omega) hf (by omega) (by omega)).mono ?_
    rintro e w' ⟨rfl, w1, hb, rfl⟩
    exact ⟨rfl, by simpa [setH, getH] using (k0.step hb).set 7 (.int .i64 (x1 - 1)), (Mv.ofBelow hb).then (Mv.set w1 ⟨g, 7, none⟩ _) (by simp)⟩
  ·by_cases hz : x2 = 0
   ·rw [if_pos ⟨rfl, hz⟩, if_neg (by decide)]
    refine (txn_pay_none2 seq mt dt rev o0 o1 o2 x0 x1 x2 am ad ar cm cd cr b g w k0 hs hm hr (by omega) (by omega) hf hz).mono ?_
    rintro e w' ⟨rfl, hb⟩
    exact ⟨rfl, k0.step hb, Mv.ofBelow hb⟩
   ·rw [if_neg (fun hh => hz hh.2), if_pos rfl, if_pos (by simp)]
    refine (txn_pay_one2 seq mt dt rev o0 o1 o2 x0 x1 x2 am ad ar cm cd cr b g w k0 hs hm hr (by omega) (by omega) hf (by omega) (by omega)).mono ?_
    rintro e w' ⟨rfl, w1, hb, rfl⟩
    exact ⟨rfl, by simpa [setH, getH] using (k0.step hb).set 9 (.int .i64 (x2 - 1)), (Mv.ofBelow hb).then (Mv.set w1 ⟨g, 9, none⟩ _) (by simp)⟩
end Go.Proofs.YtjhmfljlclajnacGreatDoor
