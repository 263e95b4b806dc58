/- Parts of the proof. -/
import Derived.Test.YtjhmfljlclajnadGreatDoorKTopOrdered12
import Derived.Test.YtjhmfljlclajnadGreatDoorKTopOrdered10
import Derived.OwnWalkIn
import Derived.TacticsInMore
import Derived.LoopNIn
import Derived.LoopIn
import Derived.Test.YtjhmfljlclajnadGreatDoorUEnc
set_option linter.unusedVariables false
set_option linter.unusedSimpArgs false
set_option maxRecDepth 100000
set_option maxHeartbeats 40000000
namespace Wb
open Go Go.RowKit
theorem posI_of {l : List Int} {b : Int} {i : Nat} (hi : i <= l.length) (h1 : ∀ k (hk : k < l.length), k < i -> l[k] < b) (h2 : ∀ k (hk : k < l.length), i <= k -> b <= l[k]) : posI l b = i := by
 unfold posI
 have e : l.filter (fun x => decide (x < b)) = l.take i := by
  conv => lhs; rw [<- List.take_append_drop i l, List.filter_append]
  rw [List.filter_eq_self.2, List.filter_eq_nil_iff.2, List.append_nil]
  ·intro c hc
   obtain ⟨k, hk, rfl⟩ := List.mem_iff_getElem.1 hc
   rw [List.getElem_drop]
   rw [List.length_drop] at hk
   have := h2 (i + k) (by omega) (by omega)
   simpa using this
  ·intro c hc
   obtain ⟨k, hk, rfl⟩ := List.mem_iff_getElem.1 hc
   rw [List.getElem_take]
   rw [List.length_take] at hk
   exact decide_eq_true (h1 k (by omega) (by omega))
 rw [e, List.length_take]
 omega
theorem inI_of {l : List Int} {b : Int} {i : Nat} (hs : l.Pairwise (· < ·)) (h1 : ∀ k (hk : k < l.length), k < i -> l[k] < b) (h2 : ∀ k (hk : k < l.length), i <= k -> b <= l[k]) :
    inI l b = true ↔ ∃ h : i < l.length, l[i] = b := by
 rw [inI_iff]
 constructor
 ·intro hb
  obtain ⟨k, hk, hb⟩ := List.mem_iff_getElem.1 hb
  have hik : i <= k := by
   by_cases hki : k < i
   ·have := h1 k hk hki; omega
   ·omega
  refine ⟨by omega, ?_⟩
  by_cases e : i = k
  ·subst e; exact hb
  ·have := List.pairwise_iff_getElem.1 hs i k (by omega) hk (by omega)
   have := h2 i (by omega) (Nat.le_refl _)
   omega
 ·rintro ⟨h, hb⟩
  exact hb ▸ List.getElem_mem h
end Wb
namespace Go.Proofs.YtjhmfljlclajnadGreatDoor
open Go.RowKit Wb
theorem cmp_isNaN (x : Int) (w : World) : Calls Tryz.prog 129 #[.int .i64 x] w fun e w' => e = .returned (.bool false) /\ w = w' := by
 go_enter Tryz.func129, Tryz.ntmps129
 go_wp2
 go_ret
 exact ⟨by simp, rfl⟩
theorem slices_isNaN (x : Int) (w : World) : Calls Tryz.prog 120 #[.int .i64 x] w fun e w' => e = .returned (.bool false) /\ w = w' := by
 go_enter Tryz.func120, Tryz.ntmps120
 go_wp2
 go_ret
 exact ⟨by simp, rfl⟩
theorem cmp_Less (x y : Int) (w : World) : Calls Tryz.prog 119 #[.int .i64 x, .int .i64 y] w fun e w' => e = .returned (.bool (decide (x < y))) /\ w = w' := by
 have h1 := fun x w => cmp_isNaN x w
 replace h1 := hid h1
 go_enter Tryz.func119, Tryz.ntmps119
 go_wp2_with (go_at_call 129; refine (h1.out _ _).mono ?_; rintro e w1 ⟨rfl, rfl⟩)
 all_goals go_ret
 all_goals exact ⟨by simp, rfl⟩
theorem slices_BinarySearchI (l : List Int) (b : Int) (v : Value) (w : World) (hs : l.Pairwise (· < ·)) (h : RL intC w v l) (hl : l.length <= 17592186044160) :
    Calls Tryz.prog 99 #[v, .int .i64 b] w fun e w' => e = .returned (.tuple #[.int .i64 (posI l b : Nat), .bool (inI l b)]) /\ w = w' := by
 obtain ⟨a, cap, rfl, _⟩ := h.form
 have hr := hid (fun k (hk : k < l.length) i (hi : i < k) => List.pairwise_iff_getElem.1 hs i k (by omega) hk hi)
 have hpo := hid (fun i h0 h1 h2 => posI_of (l := l) (b := b) (i := i) h0 h1 h2)
 have hha := hid (fun i h1 h2 => inI_of (l := l) (b := b) (i := i) hs h1 h2)
 generalize posI l b = p at *
 generalize inI l b = hb at *
 have hC := hid (fun x y w => cmp_Less x y w)
 have hN := hid (fun x w => slices_isNaN x w)
 replace h := hid h
 clear hs
 go_enter Tryz.func99, Tryz.ntmps99
 go_wp2
 go_loop [7, 8, 9] (fun s7 s8 _ => ∃ lo hi : Nat, s7 = .int .i64 lo /\ s8 = .int .i64 hi /\ lo <= hi /\ hi <= l.length /\ Hid (∀ k (hk : k < l.length), k < lo -> l[k] < b) /\ Hid (∀ k (hk : k < l.length), hi <= k -> b <= l[k])) (fun s7 s8 _ => (intOf s8 - intOf s7).toNat)
 case atStart => exact ⟨0, l.length, rfl, rfl, Nat.zero_le _, Nat.le_refl _, hid (fun k _ hk => absurd hk (Nat.not_lt_zero k)), hid (fun k hk h2 => by omega)⟩
 case round =>
  obtain ⟨lo, hi, rfl, rfl, hlh, hin, i1, i2⟩ := hrel
  by_cases hlt : lo < hi
  ·have hm : (lo + hi) / 2 < l.length := by omega
   obtain ⟨b1, o1, rfl, c0⟩ := RL.at1 (fun x => .int .i64 x) (fun _ => rfl) h.out hm
   have j1 := hid (fun (hh : l[(lo + hi) / 2] < b) => (show ∀ k (hk : k < l.length), k < (lo + hi) / 2 + 1 -> l[k] < b from fun k hk hk2 => by
    by_cases e : k = (lo + hi) / 2
    ·subst e; exact hh
    ·have := hr.out _ hm k (by omega); omega))
   have j2 := hid (fun (hh : b <= l[(lo + hi) / 2]) => (show ∀ k (hk : k < l.length), (lo + hi) / 2 <= k -> b <= l[k] from fun k hk hk2 => by
    by_cases e : k = (lo + hi) / 2
    ·subst e; exact hh
    ·have := hr.out k hk _ (show (lo + hi) / 2 < k by omega); omega))
   generalize l[(lo + hi) / 2] = x at *
   have hCx := hC.out x b w
   by_cases hx : x < b
   ·rw [decide_eq_true hx] at hCx
    replace j1 := hid (j1.out hx)
    replace hCx := hid hCx
    clear j2 hx
    go_wp2_with (go_at_call 119; ((with_reducible refine (hCx.out).mono ?_); rintro e w1 ⟨rfl, rfl⟩))
    go_round
    case measure => simp [intOf]; omega
    case rel => exact ⟨(lo + hi) / 2 + 1, hi, by rw [show ((lo : Int) + (hi : Int)) / 2 + 1 = (((lo + hi) / 2 + 1 : Nat) : Int) by omega], rfl, by omega, hin, j1, i2⟩
   ·rw [decide_eq_false hx] at hCx
    replace j2 := hid (j2.out (by omega))
    replace hCx := hid hCx
    clear j1 hx
    go_wp2_with (go_at_call 119; ((with_reducible refine (hCx.out).mono ?_); rintro e w1 ⟨rfl, rfl⟩))
    go_round
    case measure => simp [intOf]; omega
    case rel => exact ⟨lo, (lo + hi) / 2, rfl, by rw [show ((lo : Int) + (hi : Int)) / 2 = (((lo + hi) / 2 : Nat) : Int) by omega], by omega, by omega, i1, j2⟩
  ·obtain rfl : hi = lo := by omega
   have hp := hid (hpo.out hi hin i1.out i2.out)
   have hh := hid (hha.out hi i1.out i2.out)
   by_cases hn : hi < l.length
   ·obtain ⟨b1, o1, rfl, c0⟩ := RL.at1 (fun x => .int .i64 x) (fun _ => rfl) h.out hn
    have hge := i2.out hi hn (Nat.le_refl _)
    have hh2 : hb = true ↔ l[hi] = b := ⟨fun h => (hh.out.1 h).2, fun h => hh.out.2 ⟨hn, h⟩⟩
    clear i1 i2 hh
    generalize l[hi] = x at *
    by_cases hx : x = b
    ·have hv := hid (hh2.2 hx)
     have e1 : (x == b) = true := beq_iff_eq.2 hx
     clear hge hh2 hx
     go_wp2_with (go_at_call 120; ((with_reducible refine (hN.out _ _).mono ?_); rintro e w1 ⟨rfl, rfl⟩))
     go_ret2
     exact ⟨by rw [hp.out, hv.out]; rfl, rfl⟩
    ·have hv := hid (show hb = false by
       cases hbv : hb with
       | false => rfl
       | true => exact absurd (hh2.1 hbv) hx)
     have e1 : (x == b) = false := beq_eq_false_iff_ne.2 hx
     clear hge hh2 hx
     go_wp2_with (go_at_call 120; ((with_reducible refine (hN.out _ _).mono ?_); rintro e w1 ⟨rfl, rfl⟩))
     go_ret2
     exact ⟨by rw [hp.out, hv.out]; rfl, rfl⟩
   ·have hv := hid (show hb = false by
      cases hbv : hb with
      | false => rfl
      | true => obtain ⟨h1, _⟩ := hh.out.1 hbv; omega)
    clear hh i1 i2
    go_wp2
    go_ret2
    exact ⟨by rw [hp.out, hv.out]; rfl, rfl⟩
theorem txn_drop (l : List Cpy) (b : Int) (v : Value) (w : World) (h : RL cpyC w v l) (hl : l.length <= 5864062014805) :
    Calls Tryz.prog 98 #[v, .int .i64 b] w fun e w' => ∃ v', e = .returned v' /\ Wb.Own cpyC w.heap.size 63 2 w' v' (dropC l b) /\ Below w.heap.size w w' := by
 have hCl := fun w' (hb : Below w.heap.size w w') => slices_CloneC l _ w' (h.below hb) hl
 have hDel := fun v w' gb base h1 h2 h3 h4 => slices_DeleteFuncC l b v gb base w' h1 h2 h3 h4 hl
 have hoff : l.filter (fun x => !(x.block == b)) = dropC l b := rfl
 simp only [hoff] at hDel
 obtain ⟨a, cap, rfl, _⟩ := h.form
 replace hCl := hid hCl; replace hDel := hid hDel
 clear h hoff
 have X := St.start [] w
 go_enter Tryz.func98, Tryz.ntmps98
 go_wp2_with (first
  | (refine ZcL ?_) | (refine ZcS ?_; clear X; intro w X) | (refine ZcA ?_; clear X; intro g w X)
  | (go_at_call 20; ((with_reducible refine (hCl.out _ X.below).mono ?_); rintro e w1 ⟨v2, rfl, ho2, hb1⟩; obtain ⟨a2, c2, rfl⟩ := ho2.form; replace hDel := hid (hDel.out _ _ _ _ ho2 hb1.size X.k0.lt ((X.call hb1).k0.cell 0)); replace hb1 := hid hb1; clear ho2))
  | (go_at_call 117; ((with_reducible refine hDel.out.mono ?_); rintro e w2 ⟨v3, rfl, ho3, hb3⟩; obtain ⟨a3, c3, rfl⟩ := ho3.form; have ho4 := hid (ho3.mono X.mv.size); replace X := X.call (hb1.out.trans hb3); clear hb1 hb3 ho3)))
 go_ret
 exact ⟨_, rfl, ho4.out, X.below⟩
theorem txn_Revoke (t : Txn) (h b : Int) (vm vd vr : Value) (w : World) (ht : RTxn w (txnV t vm vd vr) t) :
    Calls Tryz.prog 64 #[txnV t vm vd vr, .int .i64 h, .int .i64 b] w fun e w' => ∃ vm' vd' vr', e = .returned (.tuple #[txnV (rvkT t h b) vm' vd' vr', .int .i64 (rvkE t h b)]) /\ NewT w.heap.size w' vm vd vr vm' vd' vr' t (rvkT t h b) /\ Below w.heap.size w w' := by
 have hMay := fun w' (hb : Below w.heap.size w w') => txn_may t h b _ w' (ht.below hb)
 obtain ⟨vm', vd', vr', hvv, hm, hd, hr, n1, n2, n3⟩ := ht
 simp only [txnV, Value.agg.injEq, Array.mk.injEq, List.cons.injEq, and_true, true_and] at hvv
 obtain ⟨rfl, rfl, rfl⟩ := hvv
 obtain ⟨am, cm, rfl, _⟩ := hm.form
 obtain ⟨ad, cd, rfl, _⟩ := hd.form
 obtain ⟨ar, cr, rfl, _⟩ := hr.form
 by_cases hz : mayE t h b = 0
 rotate_left
 ·obtain ⟨e1, e2⟩ := rvk_may hz
  rw [e1, e2]
  clear e1 e2
  generalize mayE t h b = E at *
  replace hMay := hid hMay
  clear hm hd hr
  unfold txnV at hMay ⊢
  have X := St.start [] w
  go_enter Tryz.func64, Tryz.ntmps64
  go_wp2_with (first
   | (refine ZcL ?_) | (refine ZcS ?_; clear X; intro w X) | (refine ZcA ?_; clear X; intro g w X)
   | (go_at_call 92; ((with_reducible refine (hMay.out _ X.below).mono ?_); rintro e w1 ⟨rfl, hb1⟩; replace X := X.call hb1; clear hb1)))
  exact m_ret2 rfl (.tmp rfl rfl) (.tmp rfl rfl) X (.head _) rfl rfl ⟨_, _, _, rfl, .same _ _ _ _ _ _, X.below⟩
 rw [hz] at hMay
 obtain ⟨hgt, hh, ho, hb⟩ := may_zero hz
 have hg := goodT_of.1 hgt
 obtain ⟨l1, l2, l3⟩ := lens hg
 have hCon := fun w' (hb : Below w.heap.size w w') => slices_ContainsI t.rev b _ w' (hr.below hb) (by omega)
 have hPay := fun w' g (hb : Below w.heap.size w w') k0 => txn_pay t am ad ar cm cd cr h b g w' k0 hg (hm.below hb) (hr.below hb) hh
 have hDm := fun w' (hb : Below w.heap.size w w') => txn_drop t.mt b _ w' (hm.below hb) (by omega)
 have hDd := fun w' (hb : Below w.heap.size w w') => txn_drop t.dt b _ w' (hd.below hb) (by omega)
 have hBS := fun w' (hb : Below w.heap.size w w') => slices_BinarySearchI t.rev b _ w' ((rise_pw _).1 hg.rev).1 (hr.below hb) (by omega)
 have hCl := fun w' (hb : Below w.heap.size w w') => slices_CloneI t.rev _ w' (hr.below hb) (by omega)
 have hIns := fun v vb base w' h1 h2 h3 h4 => slices_InsertI t.rev (posI t.rev b) b v vb base w' h1 h2 h3 h4 (posI_le _ _) (by omega)
 have hins : t.rev.take (posI t.rev b) ++ b :: t.rev.drop (posI t.rev b) = insI t.rev b := rfl
 simp only [hins] at hIns
 obtain ⟨V, hV⟩ : ∃ V, inI t.rev b = V := ⟨_, rfl⟩
 obtain ⟨E, hE⟩ : ∃ E, payE t h b = E := ⟨_, rfl⟩
 rw [hV] at hCon
 rw [hE] at hPay
 simp only [txnL] at hPay
 obtain ⟨_, pm, pd, pr⟩ := payU_same t h b
 generalize hU : payU t h b = U at *
 generalize posI t.rev b = p at *
 replace hMay := hid hMay; replace hCon := hid hCon; replace hPay := hid hPay; replace hDm := hid hDm; replace hDd := hid hDd; replace hBS := hid hBS; replace hCl := hid hCl; replace hIns := hid hIns; replace hV := hid hV; replace hE := hid hE; replace hz := hid hz; replace hU := hid hU
 clear hm hd hr hgt ho hb hins pm pd pr
 unfold txnV at hMay ⊢
 have X := St.start [] w
 go_enter Tryz.func64, Tryz.ntmps64
 go_wp2_with (first
  | (refine ZcL ?_) | (refine ZcS ?_; clear X; intro w X) | (refine ZcA ?_; clear X; intro g w X)
  | (go_at_call 92; ((with_reducible refine (hMay.out _ X.below).mono ?_); rintro e w1 ⟨rfl, hb1⟩; replace X := X.call hb1; clear hb1))
  | (go_at_call 88; ((with_reducible refine (hCon.out _ X.below).mono ?_); rintro e w1 ⟨rfl, rfl⟩))
  | (go_at_call 94; ((with_reducible refine (hPay.out _ _ X.below X.k0).mono ?_); rintro e w1 ⟨rfl, hk1, hm1⟩; have X2 := St.calledOn [] _ X hm1 hk1; clear hm1 hk1; replace X := X2; clear X2; simp only [List.nil_append] at X)))
 ·obtain ⟨e1, e2⟩ := rvk_twice hz.out (hV.out.trans ‹V = true›)
  rw [e1, e2]
  exact m_ret2 rfl (.tmp rfl rfl) (.tmp rfl rfl) X (.head _) rfl rfl ⟨_, _, _, rfl, .same _ _ _ _ _ _, X.below⟩
 ·obtain ⟨e1, e2⟩ := rvk_broke hz.out (hV.out.trans ‹V = false›) (by rw [hE.out]; simpa using ‹(E != 0) = true›)
  rw [e1, e2, hE.out]
  exact m_ret2 rfl (.tmp rfl rfl) (.tmp rfl rfl) X (.tail _ (.head _)) rfl rfl ⟨_, _, _, rfl, .same _ _ _ _ _ _, X.below⟩
 ·(refine q_startS 3 [9, 11] [3, 7, 9, 11] [1, 5] [0, 1, 2, 4, 5, 6, 3, 7, 8, 9, 10, 11] X ?_; clear X; intro hQ X hL; simp only [zF, zG] at hL; simp only [zF, zG])
  refine Zf ?_
  refine Zl ?_
  refine Zm ?_
  refine Zf ?_
  refine Zl ?_
  refine Zm ?_
  (refine q_callS 98 Tryz.func98 (hDm.out _ X.below) ?_; rintro e w1 ⟨v4, rfl, ho4, hb4⟩; obtain ⟨a4, c4, rfl⟩ := ho4.form; have f4 := hid (ho4.fresh X.mv.size); replace X := X.addOwn hb4 ho4; clear hb4 ho4; refine Zce ?_; clear hL; intro hL)
  (refine q_callS 98 Tryz.func98 (hDd.out _ X.below) ?_; rintro e w1 ⟨v5, rfl, ho5, hb5⟩; obtain ⟨a5, c5, rfl⟩ := ho5.form; have f5 := hid (ho5.fresh X.mv.size); replace X := X.addOwn hb5 ho5; clear hb5 ho5; refine Zce ?_; clear hL; intro hL)
  refine Zf ?_
  (refine Zb ?_; clear X; intro w X)
  refine Zf ?_
  (refine Zb ?_; clear X; intro w X)
  refine q_nil ?_
  go_wp2_with (first
   | (refine ZcL ?_) | (refine ZcS ?_; clear X; intro w X) | (refine ZcA ?_; clear X; intro g w X)
   | (go_at_call 99; ((with_reducible refine (hBS.out _ X.below).mono ?_); rintro e w1 ⟨rfl, rfl⟩))
   | (go_at_call 21; ((with_reducible refine (hCl.out _ X.below).mono ?_); rintro e w1 ⟨v2, rfl, ho2, hb1⟩; obtain ⟨a2, c2, rfl⟩ := ho2.form)))
  have f2 := hid (ho2.fresh X.mv.size)
  have hb3 := hid (fun w' (h3 : Below w.heap.size (w1.alloc (.cells #[.int .i64 b] 3)) w') => (bal hb1 (.cells #[.int .i64 b] 3)).trans h3)
  replace hIns := hid (hIns.out (.slice a2 t.rev.length c2) w1.heap.size w.heap.size (w1.alloc (.cells #[.int .i64 b] 3)) (ho2.alloc _) (Nat.le_trans hb1.size (by simp)) (Blk.new w1 _ _) (fun h => Nat.lt_irrefl _ (World.ownsRow.lt ho2 _ h).2))
  go_wp2_with (first
   | (refine ZcL ?_) | (refine ZcS ?_; clear X; intro w X) | (refine ZcA ?_; clear X; intro g w X)
   | (go_at_call 100; ((with_reducible refine hIns.out.mono ?_); rintro e w2 ⟨v3, rfl, ho3, hb4⟩; obtain ⟨a3, c3, rfl⟩ := ho3.form; have f3 := hid (ho3.fresh X.mv.size); replace X := X.addOwn (hb3.out _ hb4) ho3; clear hb3 hb4 ho3)))
  have hE0 : E = 0 := by simpa using ‹(E != 0) = false›
  obtain ⟨e1, e2⟩ := rvk_ok hz.out (hV.out.trans ‹V = false›) (hE.out.trans hE0)
  rw [e1, e2, hU.out]
  exact m_ret2 rfl (.tmp rfl rfl) (.tmp rfl rfl) X (.tail _ (.head _)) rfl rfl ⟨_, _, _, rfl, ⟨.inr ⟨X.r2, f4.out⟩, .inr ⟨X.r1, f5.out⟩, .inr ⟨X.r0, f3.out⟩⟩, X.below⟩
theorem txn_Get (l : List Cpy) (b : Int) (v : Value) (w : World) (h : RL cpyC w v l) (hl : l.length <= 5864062014805) :
    Calls Tryz.prog 58 #[v, .int .i64 b] w fun e w' => e = .returned (.tuple #[.string ((getC l b).getD ⟨#[]⟩), .bool (getC l b).isSome]) /\ Below w.heap.size w w' := by
 obtain ⟨a, cap, rfl, _⟩ := h.form
 have hst := fun k (hk : k < l.length) => hasB_step (l := l) (b := b) hk
 have hft := fun k (hk : ¬ k < l.length) => hasB_full (l := l) (b := b) hk
 have hht := fun k (hk : k < l.length) (hn : hasB (l.take k) b = false) (hb : l[k].block = b) => getC_step hk hn hb
 have hno' := fun (hn : hasB l b = false) => getC_none hn
 generalize getC l b = g at *
 replace h := hid h; replace hst := hid hst; replace hft := hid hft; replace hht := hid hht; replace hno' := hid hno'
 go_enter Tryz.func58, Tryz.ntmps58
 go_wp2
 go_loopw [7, 10] (fun _ i wr => ∃ k : Nat, k <= l.length /\ i = .int .i64 k /\ Hid (hasB (l.take k) b = false) /\ Below w.heap.size w wr) (fun _ i _ => l.length - (intOf i).toNat)
 case atStart => exact ⟨0, Nat.zero_le _, rfl, hid (by simp [hasB]), b0 w⟩
 case round =>
  obtain ⟨k, hk, rfl, hno, nx⟩ := hrel
  by_cases hlt : k < l.length
  ·obtain ⟨b1, o1, rfl, c0, c1⟩ := RL.at2 (fun x => .int .i64 x.block) (fun x => .string x.text) (fun _ => rfl) (h.out.below nx) hlt
   by_cases hb : l[k].block = b
   ·have hv := hht.out k hlt hno.out hb
    have e1 : (l[k].block == b) = true := beq_iff_eq.2 hb
    clear hb hno'
    generalize l[k] = x at *
    subst hv
    go_wp2
    go_ret2
    exact ⟨by simp, bal nx _⟩
   ·have hs := hst.out k hlt
    have e1 : (l[k].block == b) = false := beq_eq_false_iff_ne.2 hb
    rw [e1, hno.out] at hs
    replace hs := hid hs
    clear hb
    generalize l[k] = x at *
    go_wp2
    go_roundw
    case rel => exact ⟨k + 1, by omega, by go_num, hs, bal nx _⟩
    case measure => simp [intOf]; omega
  ·have hv := hno.out
   rw [hft.out k hlt] at hv
   have hg := hno'.out hv
   subst hg
   clear hv hno'
   go_wp2
   go_ret2
   exact ⟨rfl, nx⟩
end Go.Proofs.YtjhmfljlclajnadGreatDoor
namespace Wb
open Go Go.RowKit
def chunkN (n len : Nat) : Nat := (len + n - 1) / n
theorem chunkN_lt {n len k : Nat} (hn : 0 < n) : k < chunkN n len ↔ k * n < len := by
 unfold chunkN
 rw [Nat.lt_iff_add_one_le, Nat.le_div_iff_mul_le hn, Nat.succ_mul]
 omega
def chunkV (b off c n len k : Nat) : Value := .slice (some ⟨b, off + k * n * c, none⟩) (min n (len - k * n)) (min n (len - k * n))
def chunkL (b off c n len : Nat) : List Value := (List.range (chunkN n len)).map (chunkV b off c n len)
end Wb
namespace Go.Proofs.YtjhmfljlclajnadGreatDoor
open Go.RowKit Wb
attribute [local go_sem] Oper.semAt_some
theorem chunkC_iter (b off cap len n gs gn : Nat) (hn : 0 < n) (h1 : n <= 1000) (h2 : len <= 1000000) (hc : len <= cap) (w : World) (hs : w.cell? ⟨gs, 0, none⟩ = some (.slice (some ⟨b, off, none⟩) len cap)) (hk : w.cell? ⟨gn, 0, none⟩ = some (.int .i64 n)) :
    Iter Tryz.prog 112 #[.pointer (some ⟨gs, 0, none⟩), .pointer (some ⟨gn, 0, none⟩)] (chunkL b off 2 n len) [gs, gn] w := by
 intro l J W hB hJ hY h0
 have hxl : (chunkL b off 2 n len).length = chunkN n len := by simp [chunkL]
 have hlt := fun k => chunkN_lt (len := len) (k := k) hn
 have hsW : W.cell? ⟨gs, 0, none⟩ = some (.slice (some ⟨b, off, none⟩) len cap) := (World.cell?_of_block (hB gs (by simp))).trans hs
 have hnW : W.cell? ⟨gn, 0, none⟩ = some (.int .i64 n) := (World.cell?_of_block (hB gn (by simp))).trans hk
 have hY' : ∀ k, k < chunkN n len -> ∀ A, J k A -> YieldAt FW 0 Tryz.prog l #[chunkV b off 2 n len k] A fun e A' => e = .returned (.bool true) /\ J (k + 1) A' /\ A.heap.size <= A'.heap.size /\ ∀ b ∈ [gs, gn], A'.heap[b]? = A.heap[b]? := fun k hk A hA => by
  have := hY k (by rw [hxl]; exact hk) A hA
  simpa [chunkL] using this
 rw [hxl]
 clear hY
 have hY := hY'
 clear hY' hxl
 replace hJ := hid hJ; replace hY := hid hY; replace hlt := hid hlt
 clear hB hs hk
 refine callsIn_of_wp Tryz.func112 rfl trivial ?_ rfl
 simp only [Tryz.ntmps112, List.size_toArray, List.length_cons, List.length_nil, Nat.reduceAdd, Nat.reduceSub, Array.replicate_succ, Array.replicate_zero, List.push_toArray, List.append_toArray, List.nil_append, List.cons_append]
 gi_wp2
 gi_loopw [4] (fun i wr => ∃ k : Nat, k <= chunkN n len /\ i = .int .i64 ((k * n : Nat) : Int) /\ J k wr /\ wr.cell? ⟨gs, 0, none⟩ = some (.slice (some ⟨b, off, none⟩) len cap) /\ wr.cell? ⟨gn, 0, none⟩ = some (.int .i64 n)) (fun i _ => len + n - (intOf i).toNat)
 case atStart => exact ⟨0, Nat.zero_le _, by simp, h0, hsW, hnW⟩
 case round =>
  clear hsW hnW
  obtain ⟨k, hk, rfl, hJk, hs, hn2⟩ := hrel
  by_cases hkl : k * n < len
  ·have hkN := (hlt.out k).2 hkl
   have q1 : (k : Int) * (n : Int) < (len : Int) := by exact_mod_cast hkl
   gi_wp2
   refine (wpIn_wide (n := 0)).2 ?_
   go_region
   obtain ⟨fn, tmps, assign, body, hy, hR⟩ := hY.out k hkN wr.drew (hJ.out _ _ _ hJk (b0 wr).drew)
   simp only [chunkV, Nat.mul_one] at hy
   obtain ⟨m, hm⟩ : ∃ m, m = min n (len - k * n) := ⟨_, rfl⟩
   have hif : (if len - k * n < n then ((len - k * n : Nat) : Int) else (n : Int)) = (m : Int) := by
    rw [hm]; split <;> omega
   first
    | rw [hif]
    | rw [show min (n : Int) ((len - k * n : Nat) : Int) = (m : Int) by rw [hm]; omega]
   rw [<- hm] at hy
   have m1 : k * n + m <= len := by omega
   have m2 : k * n + m <= cap := by omega
   have m3 : ¬ m = 0 := by omega
   have hs2 : wr.drew.cell? ⟨gs, 0, none⟩ = some (.slice (some ⟨b, off, none⟩) len cap) := hs
   have hn3 : wr.drew.cell? ⟨gn, 0, none⟩ = some (.int .i64 n) := hn2
   clear hif hm
   generalize wr.drew = wd at *
   gi_wp2
   refine ⟨rfl, hR.mono ?_⟩
   rintro e W3 ⟨rfl, hJ3, hz3, hB3⟩
   have hs3 := (World.cell?_of_block (w := wd) (a := ⟨gs, 0, none⟩) (hB3 gs (by simp))).trans hs2
   have hn4 := (World.cell?_of_block (w := wd) (a := ⟨gn, 0, none⟩) (hB3 gn (by simp))).trans hn3
   gi_wp2
   go_roundw
   case rel => exact ⟨k + 1, by omega, by rw [Nat.succ_mul]; simp, hJ3, hs3, hn4⟩
   case measure => simp [intOf]; omega
  ·obtain rfl : k = chunkN n len := Nat.le_antisymm hk (Nat.le_of_not_lt fun h => hkl ((hlt.out k).1 h))
   have q1 : ¬ ((chunkN n len : Nat) : Int) * (n : Int) < (len : Int) := by exact_mod_cast hkl
   gi_wp2
   go_end0
   exact ⟨⟨_, rfl⟩, hJk⟩
theorem chunkC_nil (a : Option Addr) (cap gs gn : Nat) (n : Int) (w : World) (hs : w.cell? ⟨gs, 0, none⟩ = some (.slice a 0 cap)) (hk : w.cell? ⟨gn, 0, none⟩ = some (.int .i64 n)) :
    Iter Tryz.prog 112 #[.pointer (some ⟨gs, 0, none⟩), .pointer (some ⟨gn, 0, none⟩)] [] [gs, gn] w := by
 intro l J W hB hJ hY h0
 have hsW : W.cell? ⟨gs, 0, none⟩ = some (.slice a 0 cap) := (World.cell?_of_block (hB gs (by simp))).trans hs
 clear hB hs hk hY hJ
 refine callsIn_of_wp Tryz.func112 rfl trivial ?_ rfl
 simp only [Tryz.ntmps112, List.size_toArray, List.length_cons, List.length_nil, Nat.reduceAdd, Nat.reduceSub, Array.replicate_succ, Array.replicate_zero, List.push_toArray, List.append_toArray, List.nil_append, List.cons_append]
 gi_wp2
 gi_loopw [4] (fun i wr => i = .int .i64 0 /\ J 0 wr /\ wr.cell? ⟨gs, 0, none⟩ = some (.slice a 0 cap)) (fun _ _ => 0)
 case atStart => exact ⟨rfl, h0, hsW⟩
 case round =>
  clear hsW
  obtain ⟨rfl, hJk, hs⟩ := hrel
  gi_wp2
  go_end0
  exact ⟨⟨_, rfl⟩, hJk⟩
theorem chunkC (a : Option Addr) (len cap n : Nat) (nI : Int) (hI : nI = n) (hn : 0 < n) (h2 : n <= 1000) {S : List Nat} {w0 w : World} {L : List Ent} {R : List Rd} (X : St S w0 w L R) :
    Calls Tryz.prog 86 #[.slice a len cap, .int .i64 nI] w fun e w' => ∃ gs gn, e = .returned (.func (.func 112) #[] #[.pointer (some ⟨gs, 0, none⟩), .pointer (some ⟨gn, 0, none⟩)]) /\ St S w0 w' (⟨gn, [.int .i64 n], 3⟩ :: ⟨gs, [.slice a len cap], 37⟩ :: L) R := by
 subst hI
 have q : ¬ ((n : Int) < 1) := by omega
 go_enter Tryz.func86, Tryz.ntmps86
 go_wp2_with (first
  | (refine ZcL ?_) | (refine ZcS ?_; clear X; intro w X) | (refine ZcA ?_; clear X; intro g w X))
 go_ret
 exact ⟨_, _, rfl, X⟩
theorem chunkI_iter (b off cap len n gs gn : Nat) (hn : 0 < n) (h1 : n <= 1000) (h2 : len <= 1000000) (hc : len <= cap) (w : World) (hs : w.cell? ⟨gs, 0, none⟩ = some (.slice (some ⟨b, off, none⟩) len cap)) (hk : w.cell? ⟨gn, 0, none⟩ = some (.int .i64 n)) :
    Iter Tryz.prog 111 #[.pointer (some ⟨gs, 0, none⟩), .pointer (some ⟨gn, 0, none⟩)] (chunkL b off 1 n len) [gs, gn] w := by
 intro l J W hB hJ hY h0
 have hxl : (chunkL b off 1 n len).length = chunkN n len := by simp [chunkL]
 have hlt := fun k => chunkN_lt (len := len) (k := k) hn
 have hsW : W.cell? ⟨gs, 0, none⟩ = some (.slice (some ⟨b, off, none⟩) len cap) := (World.cell?_of_block (hB gs (by simp))).trans hs
 have hnW : W.cell? ⟨gn, 0, none⟩ = some (.int .i64 n) := (World.cell?_of_block (hB gn (by simp))).trans hk
 have hY' : ∀ k, k < chunkN n len -> ∀ A, J k A -> YieldAt FW 0 Tryz.prog l #[chunkV b off 1 n len k] A fun e A' => e = .returned (.bool true) /\ J (k + 1) A' /\ A.heap.size <= A'.heap.size /\ ∀ b ∈ [gs, gn], A'.heap[b]? = A.heap[b]? := fun k hk A hA => by
  have := hY k (by rw [hxl]; exact hk) A hA
  simpa [chunkL] using this
 rw [hxl]
 clear hY
 have hY := hY'
 clear hY' hxl
 replace hJ := hid hJ; replace hY := hid hY; replace hlt := hid hlt
 clear hB hs hk
 refine callsIn_of_wp Tryz.func111 rfl trivial ?_ rfl
 simp only [Tryz.ntmps111, List.size_toArray, List.length_cons, List.length_nil, Nat.reduceAdd, Nat.reduceSub, Array.replicate_succ, Array.replicate_zero, List.push_toArray, List.append_toArray, List.nil_append, List.cons_append]
 gi_wp2
 gi_loopw [4] (fun i wr => ∃ k : Nat, k <= chunkN n len /\ i = .int .i64 ((k * n : Nat) : Int) /\ J k wr /\ wr.cell? ⟨gs, 0, none⟩ = some (.slice (some ⟨b, off, none⟩) len cap) /\ wr.cell? ⟨gn, 0, none⟩ = some (.int .i64 n)) (fun i _ => len + n - (intOf i).toNat)
 case atStart => exact ⟨0, Nat.zero_le _, by simp, h0, hsW, hnW⟩
 case round =>
  clear hsW hnW
  obtain ⟨k, hk, rfl, hJk, hs, hn2⟩ := hrel
  by_cases hkl : k * n < len
  ·have hkN := (hlt.out k).2 hkl
   have q1 : (k : Int) * (n : Int) < (len : Int) := by exact_mod_cast hkl
   gi_wp2
   refine (wpIn_wide (n := 0)).2 ?_
   go_region
   obtain ⟨fn, tmps, assign, body, hy, hR⟩ := hY.out k hkN wr.drew (hJ.out _ _ _ hJk (b0 wr).drew)
   simp only [chunkV, Nat.mul_one] at hy
   obtain ⟨m, hm⟩ : ∃ m, m = min n (len - k * n) := ⟨_, rfl⟩
   have hif : (if len - k * n < n then ((len - k * n : Nat) : Int) else (n : Int)) = (m : Int) := by
    rw [hm]; split <;> omega
   first
    | rw [hif]
    | rw [show min (n : Int) ((len - k * n : Nat) : Int) = (m : Int) by rw [hm]; omega]
   rw [<- hm] at hy
   have m1 : k * n + m <= len := by omega
   have m2 : k * n + m <= cap := by omega
   have m3 : ¬ m = 0 := by omega
   have hs2 : wr.drew.cell? ⟨gs, 0, none⟩ = some (.slice (some ⟨b, off, none⟩) len cap) := hs
   have hn3 : wr.drew.cell? ⟨gn, 0, none⟩ = some (.int .i64 n) := hn2
   clear hif hm
   generalize wr.drew = wd at *
   gi_wp2
   refine ⟨rfl, hR.mono ?_⟩
   rintro e W3 ⟨rfl, hJ3, hz3, hB3⟩
   have hs3 := (World.cell?_of_block (w := wd) (a := ⟨gs, 0, none⟩) (hB3 gs (by simp))).trans hs2
   have hn4 := (World.cell?_of_block (w := wd) (a := ⟨gn, 0, none⟩) (hB3 gn (by simp))).trans hn3
   gi_wp2
   go_roundw
   case rel => exact ⟨k + 1, by omega, by rw [Nat.succ_mul]; simp, hJ3, hs3, hn4⟩
   case measure => simp [intOf]; omega
  ·obtain rfl : k = chunkN n len := Nat.le_antisymm hk (Nat.le_of_not_lt fun h => hkl ((hlt.out k).1 h))
   have q1 : ¬ ((chunkN n len : Nat) : Int) * (n : Int) < (len : Int) := by exact_mod_cast hkl
   gi_wp2
   go_end0
   exact ⟨⟨_, rfl⟩, hJk⟩
theorem chunkI_nil (a : Option Addr) (cap gs gn : Nat) (n : Int) (w : World) (hs : w.cell? ⟨gs, 0, none⟩ = some (.slice a 0 cap)) (hk : w.cell? ⟨gn, 0, none⟩ = some (.int .i64 n)) :
    Iter Tryz.prog 111 #[.pointer (some ⟨gs, 0, none⟩), .pointer (some ⟨gn, 0, none⟩)] [] [gs, gn] w := by
 intro l J W hB hJ hY h0
 have hsW : W.cell? ⟨gs, 0, none⟩ = some (.slice a 0 cap) := (World.cell?_of_block (hB gs (by simp))).trans hs
 clear hB hs hk hY hJ
 refine callsIn_of_wp Tryz.func111 rfl trivial ?_ rfl
 simp only [Tryz.ntmps111, List.size_toArray, List.length_cons, List.length_nil, Nat.reduceAdd, Nat.reduceSub, Array.replicate_succ, Array.replicate_zero, List.push_toArray, List.append_toArray, List.nil_append, List.cons_append]
 gi_wp2
 gi_loopw [4] (fun i wr => i = .int .i64 0 /\ J 0 wr /\ wr.cell? ⟨gs, 0, none⟩ = some (.slice a 0 cap)) (fun _ _ => 0)
 case atStart => exact ⟨rfl, h0, hsW⟩
 case round =>
  clear hsW
  obtain ⟨rfl, hJk, hs⟩ := hrel
  gi_wp2
  go_end0
  exact ⟨⟨_, rfl⟩, hJk⟩
theorem chunkI (a : Option Addr) (len cap n : Nat) (nI : Int) (hI : nI = n) (hn : 0 < n) (h2 : n <= 1000) {S : List Nat} {w0 w : World} {L : List Ent} {R : List Rd} (X : St S w0 w L R) :
    Calls Tryz.prog 85 #[.slice a len cap, .int .i64 nI] w fun e w' => ∃ gs gn, e = .returned (.func (.func 111) #[] #[.pointer (some ⟨gs, 0, none⟩), .pointer (some ⟨gn, 0, none⟩)]) /\ St S w0 w' (⟨gn, [.int .i64 n], 3⟩ :: ⟨gs, [.slice a len cap], 38⟩ :: L) R := by
 subst hI
 have q : ¬ ((n : Int) < 1) := by omega
 go_enter Tryz.func85, Tryz.ntmps85
 go_wp2_with (first
  | (refine ZcL ?_) | (refine ZcS ?_; clear X; intro w X) | (refine ZcA ?_; clear X; intro g w X))
 go_ret
 exact ⟨_, _, rfl, X⟩
end Go.Proofs.YtjhmfljlclajnadGreatDoor
namespace Wb
open Go Go.RowKit
def logS (r : Ring) (t : Txn) (j : Nat) : List Stp := List.zipWith atW (places r.head j) ((logT t).take j)
theorem logS_zero (r : Ring) (t : Txn) : logS r t 0 = [] := rfl
theorem logS_succ {r : Ring} {t : Txn} {j : Nat} {s : ByteArray} (h : (logT t)[j]? = some s) : logS r t (j + 1) = logS r t j ++ [atW ((r.head + j) % 24) s] := by
 obtain ⟨hj, hs⟩ := List.getElem?_eq_some_iff.1 h
 unfold logS
 rw [places_succ, List.take_succ_eq_append_getElem hj, hs, List.zipWith_append (by rw [places_len, List.length_take]; omega)]
 rfl
theorem logS_len {r : Ring} {t : Txn} {j : Nat} (h : j <= (logT t).length) : (logS r t j).length = j := by
 unfold logS
 rw [List.length_zipWith, places_len, List.length_take]; omega
theorem logT_len (t : Txn) : (logT t).length = (bodyT t).length + 1 := by unfold logT; rw [List.length_append]; rfl
theorem logS_body (r : Ring) (t : Txn) : logS r t (bodyT t).length = List.zipWith atW (places r.head (bodyT t).length) (bodyT t) := by
 unfold logS logT
 rw [List.take_append_of_le_length (Nat.le_refl _), List.take_length]
def partJ (t : Txn) (k : Nat) : Nat := (revL t.seq t.rev).length + (if k = 0 then 0 else if k = 1 then (partL t.seq (t.mt.take 10)).length else (partL t.seq (t.mt.take 10)).length + (partL t.seq (t.mt.drop 10)).length)
def partM (t : Txn) (k : Nat) : List Cpy := (t.mt.drop (k * 10)).take 10
theorem revL_len (q : Int) (r : List Int) : (revL q r).length = if r = [] then 0 else 1 := by unfold revL; split <;> rfl
theorem partM0 (t : Txn) : partM t 0 = t.mt.take 10 := rfl
theorem partM1 {t : Txn} (h : t.mt.length <= 12) : partM t 1 = t.mt.drop 10 := by
 unfold partM
 rw [List.take_of_length_le (by rw [List.length_drop]; omega)]
theorem logT_rev {t : Txn} (h : t.rev ≠ []) : (logT t)[0]? = some (markS (listM t.seq t.rev)) := by
 unfold logT bodyT revL
 rw [if_neg h]; rfl
theorem logT_part {t : Txn} (hm : t.mt.length <= 12) {k i : Nat} (hk : k < 2) {s : ByteArray} (h : (partL t.seq (partM t k))[i]? = some s) : (logT t)[partJ t k + i]? = some s := by
 unfold logT bodyT partJ
 rw [List.getElem?_append_left]
 ·rw [Nat.add_assoc, List.getElem?_append_right (Nat.le_add_right _ _), Nat.add_sub_cancel_left]
  obtain rfl | rfl : k = 0 \/ k = 1 := by omega
  ·rw [if_pos rfl, Nat.zero_add, <- partM0]
   rw [List.getElem?_append_left (List.getElem?_eq_some_iff.1 h).1]; exact h
  ·rw [if_neg (by decide), if_pos rfl, List.getElem?_append_right (Nat.le_add_right _ _), Nat.add_sub_cancel_left, <- partM1 hm]; exact h
 ·have := (List.getElem?_eq_some_iff.1 h).1
  rw [List.length_append, List.length_append]
  obtain rfl | rfl : k = 0 \/ k = 1 := by omega
  ·rw [partM0] at this; rw [if_pos rfl]; omega
  ·rw [partM1 hm] at this; rw [if_neg (by decide), if_pos rfl]; omega
theorem partL_head {q : Int} {p : List Cpy} (h : p ≠ []) : (partL q p)[0]? = some (markS (descM q p)) := by unfold partL; rw [if_neg h]; rfl
theorem partL_copy {q : Int} {p : List Cpy} {i : Nat} (h : i < p.length) : (partL q p)[1 + i]? = some (escS p[i].text) := by
 unfold partL
 rw [if_neg (by intro e; subst e; exact absurd h (Nat.not_lt_zero _)), Nat.add_comm, List.getElem?_cons_succ, List.getElem?_map]
 simp [h]
theorem partJ_next {t : Txn} (hm : t.mt.length <= 12) {k : Nat} (hk : k * 10 < t.mt.length) : partJ t (k + 1) = partJ t k + (1 + (partM t k).length) := by
 have hk2 : k < 2 := by omega
 unfold partJ
 obtain rfl | rfl : k = 0 \/ k = 1 := by omega
 ·rw [if_neg (by decide), if_pos rfl, if_pos rfl, partL_len, partM0, if_neg]
  ·omega
  ·intro h
   have := congrArg List.length h
   rw [List.length_take] at this
   rw [List.length_nil] at this; omega
 ·rw [if_neg (by decide), if_neg (by decide), if_neg (by decide), if_pos rfl, partL_len t.seq (t.mt.drop 10), partM1 hm, if_neg]
  ·omega
  ·intro h
   have := congrArg List.length h
   rw [List.length_drop] at this
   rw [List.length_nil] at this; omega
theorem partM_len {t : Txn} (k : Nat) : (partM t k).length = min 10 (t.mt.length - k * 10) := by unfold partM; rw [List.length_take, List.length_drop]
theorem bodyT_end {t : Txn} (hm : t.mt.length <= 12) : (bodyT t).length = partJ t (chunkN 10 t.mt.length) := by
 have h2 : (t.mt.drop 10 = []) ↔ t.mt.length <= 10 := by rw [<- List.length_eq_zero_iff, List.length_drop]; omega
 have hc : chunkN 10 t.mt.length = if t.mt.length = 0 then 0 else if t.mt.length <= 10 then 1 else 2 := by
  unfold chunkN
  split
  ·omega
  ·split <;> omega
 rw [hc]
 unfold bodyT partJ
 rw [List.length_append, List.length_append]
 by_cases h0 : t.mt.length = 0
 ·rw [if_pos h0, if_pos rfl]
  have e : t.mt = [] := List.length_eq_zero_iff.1 h0
  rw [e]; rfl
 ·rw [if_neg h0]
  by_cases h1 : t.mt.length <= 10
  ·rw [if_pos h1, if_neg (by decide), if_pos rfl, h2.2 h1]
   have : (partL t.seq []).length = 0 := rfl
   rw [this]; omega
  ·rw [if_neg h1, if_neg (by decide), if_neg (by decide)]
theorem partJ_bound {t : Txn} (hm : t.mt.length <= 12) {k : Nat} (hk : k * 10 < t.mt.length) : partJ t k + (1 + (partM t k).length) <= (bodyT t).length := by
 rw [bodyT_end hm]
 have h1 := partJ_next hm hk
 have hc := fun j => chunkN_lt (n := 10) (len := t.mt.length) (k := j) (by decide)
 have hk1 := (hc k).2 hk
 have h2 := hc (k + 1)
 have h3 := hc (k + 2)
 by_cases hk2 : (k + 1) * 10 < t.mt.length
 ·have h4 := partJ_next hm hk2
  have : chunkN 10 t.mt.length = k + 1 + 1 := by omega
  rw [this, h4, h1]; omega
 ·have : chunkN 10 t.mt.length = k + 1 := by omega
  rw [this, h1]; omega
theorem partJ_low {t : Txn} (hm : t.mt.length <= 12) : partJ t 0 <= (bodyT t).length := by
 by_cases hz : 0 < t.mt.length
 ·have := partJ_bound hm (k := 0) (by omega); omega
 ·have : chunkN 10 t.mt.length = 0 := by unfold chunkN; omega
  rw [bodyT_end hm, this]; exact Nat.le_refl _
theorem dataS_len {t : Txn} (h : t.dt.length <= 12) : (dataS t).length <= 13 := by
 unfold dataS
 rw [List.length_append, List.length_map]
 have : (if t.dt = [] then ([] : List Stp) else [flushS]).length <= 1 := by split <;> simp
 omega
theorem comL_eq {r : Ring} {t : Txn} (h : comE r t = 0) : comL r t = dataS t ++ (logS r t (bodyT t).length ++ ((if (bodyT t).length = 0 then [] else [flushS]) ++ [atW ((r.head + ((bodyT t).length : Int)) % 24) (markS (comM t.seq)), flushS])) := by
 unfold comL
 rw [if_pos h, logS_body]
 congr 3
 by_cases hz : bodyT t = []
 ·rw [if_pos hz, if_pos (by rw [hz]; rfl)]
 ·rw [if_neg hz, if_neg (by rw [List.length_eq_zero_iff]; exact hz)]
theorem dataS_eq (t : Txn) : t.dt.map goS ++ (if 0 < t.dt.length then [flushS] else []) = dataS t := by
 unfold dataS
 congr 1
 by_cases h : t.dt = []
 ·rw [if_pos h, if_neg (by rw [h]; decide)]
 ·rw [if_neg h, if_pos (List.length_pos_iff.2 h)]
structure ComF (r : Ring) (t : Txn) (nb : Nat) (DS : List Stp) (LS : Nat -> List Stp) (pj : Nat -> Nat) (pm : Nat -> List Cpy) : Prop where
 l0 : LS 0 = []
 lr : t.rev ≠ [] -> LS 1 = LS 0 ++ [atW ((r.head + ((0 : Nat) : Int)) % 24) (markS (listM t.seq t.rev))]
 lp : ∀ k, k * 10 < t.mt.length -> ∀ i s, (partL t.seq (pm k))[i]? = some s -> LS (pj k + i + 1) = LS (pj k + i) ++ [atW ((r.head + ((pj k + i : Nat) : Int)) % 24) s]
 j0 : pj 0 = (revL t.seq t.rev).length
 jn : ∀ k, k * 10 < t.mt.length -> pj (k + 1) = pj k + (1 + (pm k).length)
 je : nb = pj (chunkN 10 t.mt.length)
 ml : ∀ k, (pm k).length = min 10 (t.mt.length - k * 10)
 md : ∀ k, pm k = (t.mt.drop (k * 10)).take 10
 ll : ∀ j, j <= nb + 1 -> (LS j).length = j
 dl : DS.length <= 13
 cd : comL r t = DS ++ (LS nb ++ ((if nb = 0 then [] else [flushS]) ++ [atW ((r.head + (nb : Int)) % 24) (markS (comM t.seq)), flushS]))
 ds : t.dt.map goS ++ (if 0 < t.dt.length then [flushS] else []) = DS
 bk : ∀ k, k * 10 < t.mt.length -> pj k + (1 + (pm k).length) <= nb
 b0 : pj 0 <= nb
theorem comF {r : Ring} {t : Txn} (hm : t.mt.length <= 12) (hd : t.dt.length <= 12) (hc : comE r t = 0) : ∃ DS LS pj pm, ComF r t (bodyT t).length DS LS pj pm :=
 ⟨dataS t, logS r t, partJ t, partM t, logS_zero r t, fun h => logS_succ (j := 0) (logT_rev h), fun k hk i s hs => logS_succ (logT_part hm (by omega) hs), rfl, fun k hk => partJ_next hm hk, bodyT_end hm, partM_len, fun _ => rfl,
  fun j hj => logS_len (by rw [logT_len]; exact hj), dataS_len hd, comL_eq hc, dataS_eq t, fun k hk => partJ_bound hm hk, partJ_low hm⟩
end Wb
namespace Go.Proofs.YtjhmfljlclajnadGreatDoor
open Go.RowKit Wb
theorem seal_write (p : Int) (s : ByteArray) (w : World) :
    Calls Tryz.prog 76 #[.int .i64 p, .string s] w fun e w' => e = .returned (.agg #[.int .i64 1, .int .i64 p, .string s]) /\ Below w.heap.size w w' := by
 have X := St.start [] w
 go_enter Tryz.func76, Tryz.ntmps76
 go_wp2_with (first
  | (refine ZcL ?_) | (refine ZcS ?_; clear X; intro w X) | (refine ZcA ?_; clear X; intro g w X))
 exact m_ret1 rfl (.tmp rfl rfl) X (.head _) rfl rfl ⟨rfl, X.below⟩
end Go.Proofs.YtjhmfljlclajnadGreatDoor
namespace Wb
open Go Go.RowKit
theorem back_rev {l : List Txn} (hg : ∀ t ∈ l, goodT t = true) {j : Nat} (hj : j < l.length) {b : Int} (h : inI l[j].rev b = true) : newestB (l.take (j + 1)) b = none := by
 rw [List.take_succ_eq_append_getElem hj, newestB_back]
 have g := hg _ (List.getElem_mem hj)
 have h1 : getC l[j].mt b = none := by
  cases hc : getC l[j].mt b with
  | none => rfl
  | some s =>
   exfalso
   have h2 : hasB l[j].mt b = true := by rw [hasB_get, hc]; rfl
   obtain ⟨c, hc1, hc2⟩ := List.any_eq_true.1 h2
   obtain ⟨k, hk, rfl⟩ := List.mem_iff_getElem.1 hc1
   have := (good_meta g hk).1
   rw [beq_iff_eq.1 hc2, h] at this
   cases this
 rw [h1, h]
 rfl
theorem back_get {l : List Txn} {j : Nat} (hj : j < l.length) {b : Int} {s : ByteArray} (h : getC l[j].mt b = some s) : newestB (l.take (j + 1)) b = some s := by
 rw [List.take_succ_eq_append_getElem hj, newestB_back, h]
theorem back_no {l : List Txn} {j : Nat} (hj : j < l.length) {b : Int} (h1 : inI l[j].rev b = false) (h : getC l[j].mt b = none) : newestB (l.take (j + 1)) b = newestB (l.take j) b := by
 rw [List.take_succ_eq_append_getElem hj, newestB_back, h, h1]
 rfl
theorem viewN_none {f : Int -> Option ByteArray} {n : Nat} (h : f n = none) : viewN f (n + 1) = viewN f n := by rw [viewN_succ, h]; simp
theorem viewN_some {f : Int -> Option ByteArray} {n : Nat} {s : ByteArray} (h : f n = some s) : viewN f (n + 1) = viewN f n ++ [⟨n, s⟩] := by rw [viewN_succ, h]; rfl
theorem OwnM.own {α : Type} {f : α -> List Value} {e : TypeId} {c : Nat} {v : Value} {l : List α} {M L T : List Ent} {w0 w : World} {R : List Rd} (hF : Flat f c) (h : OwnM f e c v l M) (X : St [] w0 w (L ++ (M ++ T)) R) : Own f w0.heap.size e c w v l := by
 rcases h with ⟨rfl, rfl, rfl⟩ | ⟨g, cap, rest, rfl, h1, h2, h3, rfl⟩
 ·exact Own.nil _ _ _ _ _
 ·have hk := X.blk ⟨g, l.flatMap f ++ rest, e⟩ (by simp)
  have ho := X.own ⟨g, l.flatMap f ++ rest, e⟩ (by simp)
  refine ⟨flat_len hF.len l, .inr ⟨g, cap, _, rfl, ho.resolve_left (fun h => by cases h), hk, h1, h2, ?_, ?_⟩⟩
  ·simpa using h3
  ·rw [<- flat_len hF.len l]; simp
end Wb
namespace Go.Proofs.YtjhmfljlclajnadGreatDoor
open Go.RowKit Wb
theorem seal_Newest (l : List Txn) (hg : ∀ t ∈ l, goodT t = true) (v : Value) (w : World) (h : RTxns w v l) :
    Calls Tryz.prog 57 #[v] w fun e w' => ∃ v', e = .returned v' /\ Wb.Own cpyC w.heap.size 63 2 w' v' (newestL l) /\ Below w.heap.size w w' := by
 obtain ⟨a, cap, rfl, hl⟩ := h.form
 have hbr := fun j (hj : j < l.length) b => back_rev hg hj (b := b)
 have hbg := fun j (hj : j < l.length) b s => back_get (l := l) hj (b := b) (s := s)
 have hbn := fun j (hj : j < l.length) b => back_no (l := l) hj (b := b)
 have hvn := fun k => viewN_none (f := newestB l) (n := k)
 have hvs := fun k s => viewN_some (f := newestB l) (n := k) (s := s)
 have hvl := fun k => viewN_len (newestB l) k
 have hz : ∀ b, newestB (l.take 0) b = none := fun b => rfl
 have hfu : l.take l.length = l := List.take_length
 have hrl := fun k (hk : k < l.length) => lens (goodT_of.1 (hg _ (List.getElem_mem hk)))
 have hnl : newestL l = viewN (newestB l) 12 := rfl
 have hv0 : viewN (newestB l) 0 = [] := rfl
 rw [hnl]
 replace h := hid h; replace hbr := hid hbr; replace hbg := hid hbg; replace hbn := hid hbn; replace hvn := hid hvn; replace hvs := hid hvs; replace hvl := hid hvl; replace hz := hid hz; replace hfu := hid hfu; replace hrl := hid hrl; replace hv0 := hid hv0
 clear hnl hg
 go_enter Tryz.func57, Tryz.ntmps57
 go_wp2
 go_loopw [3, 8] (fun o i wr => ∃ (k : Nat) (M : List Ent), k <= 12 /\ i = .int .i64 k /\ OwnM cpyC 63 2 o (viewN (newestB l) k) M /\ St [] w wr (M ++ []) []) (fun _ i _ => 12 - (intOf i).toNat)
 case atStart => exact ⟨0, [], by decide, rfl, by rw [hv0.out]; exact OwnM.nil _ _ _, St.start [] w⟩
 case round =>
  obtain ⟨k, M, hk, rfl, hO, X⟩ := hrel
  by_cases hlt : k < 12
  ·have hvk := hvl.out k
   have hk12 : (k : Int) < 12 := by omega
   obtain ⟨ao, co, rfl⟩ := hO.form
   go_upto_block 1 with fail
   go_cut [3] (fun o wx => ∃ M, OwnM cpyC 63 2 o (viewN (newestB l) (k + 1)) M /\ St [] w wx (M ++ []) [])
   case first =>
    go_wp2
    go_loopw [3, 5] (fun o i wr => ∃ j : Nat, j <= l.length /\ i = .int .i64 ((j : Int) - 1) /\ o = .slice ao (viewN (newestB l) k).length co /\ Hid (newestB l k = newestB (l.take j) k) /\ St [] w wr (M ++ []) []) (fun _ i _ => (intOf i + 1).toNat)
    case atStart => exact ⟨l.length, Nat.le_refl _, rfl, rfl, hid (by rw [hfu.out]), X⟩
    case round =>
     clear X
     obtain ⟨j, hj, rfl, rfl, hnw, X⟩ := hrel
     rcases Nat.eq_zero_or_pos j with hj0 | hj0
     ·subst hj0
      have hn := hnw.out.trans (hz.out k)
      replace hn := hid hn
      go_wp2
      go_meet
      exact ⟨M, by rw [hvn.out _ hn.out]; exact hO, X⟩
     ·obtain ⟨i, rfl⟩ : ∃ i, j = i + 1 := ⟨j - 1, by omega⟩
      have hi : i < l.length := by omega
      obtain ⟨b1, o1, am, cm, ad, cd, ar, cr, rfl, hrt, c0, c1, c2, c3, c4, c5, c6, c7, c8, c9⟩ := (h.out.below X.below).at3 hi
      obtain ⟨vm', vd', vr', hv, hm, hd, hr, n1, n2, n3⟩ := hrt
      simp only [txnV, Value.agg.injEq, Array.mk.injEq, List.cons.injEq, and_true, true_and] at hv
      obtain ⟨rfl, rfl, rfl⟩ := hv
      have hb1 := hbr.out i hi k
      have hb2 := hbg.out i hi k
      have hb3 := hbn.out i hi k
      rw [<- hnw.out] at hb1 hb2 hb3
      generalize l[i] = t at *
      have hC := fun w' (hb : Below wr.heap.size wr w') => slices_ContainsI t.rev k _ w' (hr.below hb) (by omega)
      have hG := fun w' (hb : Below wr.heap.size wr w') => txn_Get t.mt k _ w' (hm.below hb) (by omega)
      replace hb1 := hid hb1; replace hb2 := hid hb2; replace hb3 := hid hb3; replace hm := hid hm; replace hr := hid hr; replace hC := hid hC; replace hG := hid hG
      cases hB : inI t.rev k with
      | true =>
       have hn := hb1.out hB
       rw [hB] at hC
       clear hB
       replace hn := hid hn
       go_wp2_with (first
        | (go_at_call 88; ((with_reducible refine (hC.out _ (b0 _)).mono ?_); rintro e w1 ⟨rfl, rfl⟩)))
       go_meet
       exact ⟨M, by rw [hvn.out _ hn.out]; exact hO, X⟩
      | false =>
       have hb3 := hb3.out hB
       rw [hB] at hC
       clear hB
       cases hT : getC t.mt k with
       | none =>
        have hn := hb3 hT
        rw [hT] at hG
        clear hT hb3
        replace hn := hid hn
        go_wp2_with (first
         | (go_at_call 88; ((with_reducible refine (hC.out _ (b0 _)).mono ?_); rintro e w1 ⟨rfl, rfl⟩))
         | (go_at_call 58; ((with_reducible refine (hG.out _ (b0 _)).mono ?_); rintro e w1 ⟨rfl, hb1⟩; replace X := X.call hb1; clear hb1)))
        go_roundw
        case rel => (first | exact ⟨i, by omega, by go_num, rfl, hn, X⟩ | ((repeat apply Exists.intro); exact ⟨⟨i, by omega, by go_num, rfl, hn, X⟩, rfl⟩))
        case measure => simp [intOf]
       | some s =>
        have hn := hb2.out s hT
        rw [hT] at hG
        clear hT hb3
        replace hn := hid hn
        have hy : [(⟨k, s⟩ : Cpy)].flatMap cpyC = [.int .i64 k, .string s] := rfl
        go_wp2_with (first
         | (go_at_call 88; ((with_reducible refine (hC.out _ (b0 _)).mono ?_); rintro e w1 ⟨rfl, rfl⟩))
         | (go_at_call 58; ((with_reducible refine (hG.out _ (b0 _)).mono ?_); rintro e w1 ⟨rfl, hb1⟩; replace X := X.call hb1; clear hb1))
         | (refine at_build rfl ?_; (refine m_build1 rfl rfl Zev (by rfl) (by rfl) X ?_; intro g w2 X2; replace X := X2; clear X2; (simp only [Act.put, zA, zB, zC, zD, zE, zF, zG, Nat.reduceAdd])))
         | (at_builtin; ((refine m_app (M := M) (T := []) (n := 1) [] rfl rfl [⟨k, s⟩] cpyC_flat X hO Zev Zev hy rfl (by omega) ?_); intro a2 c2 w2 M2 hO2 X2; (simp only [Act.put, zA, zB, zC, zD, zE, zF, zG, Nat.reduceAdd]))))
        go_meet
        exact ⟨M2, by rw [hvs.out _ _ hn.out]; exact hO2, X2⟩
   case rest =>
    obtain ⟨M, hO, X⟩ := hcut
    go_wp2
    go_roundw
    case rel => exact ⟨k + 1, M, by omega, by go_num, hO, X⟩
    case measure => simp [intOf]; omega
  ·obtain rfl : k = 12 := by omega
   go_wp2
   go_ret
   exact ⟨_, rfl, hO.own (L := []) cpyC_flat X, X.below⟩
end Go.Proofs.YtjhmfljlclajnadGreatDoor
namespace Wb
open Go Go.RowKit
theorem superM_read (w : World) (q p : Int) : RMark w (.agg #[.int .i64 1, .int .i64 q, .int .i64 p, .slice none 0 0, .slice none 0 0]) (superM q p) :=
 ⟨_, _, rfl, RL.nil _ _, RL.nil _ _, Nat.zero_le _, Nat.zero_le _⟩
theorem checkE_bad {l : List Cpy} {p q : Int} (h : markE (superM q p) ≠ 0) : checkE l p q = markE (superM q p) /\ checkL l p q = [] := by
 have e : checkE l p q = markE (superM q p) := by unfold checkE; rw [if_pos h]
 exact ⟨e, by unfold checkL; rw [e, if_neg h]⟩
theorem checkE_form {l : List Cpy} {p q : Int} (h : markE (superM q p) = 0) {k : Nat} (hk : k < l.length) (hc : cpyOk l[k] = false) : checkE l p q = 1 /\ checkL l p q = [] := by
 have hn : ¬ l.all cpyOk = true := fun hh => by
  have := List.all_eq_true.1 hh _ (List.getElem_mem hk)
  rw [hc] at this; cases this
 have e : checkE l p q = 1 := by unfold checkE; rw [if_neg (by rw [h]; decide), if_neg hn]
 exact ⟨e, by unfold checkL; rw [e, if_neg (by decide)]⟩
theorem checkE_ok {l : List Cpy} {p q : Int} (h : markE (superM q p) = 0) (hc : l.all cpyOk = true) : checkE l p q = 0 /\ checkL l p q = homeS l ++ [wrS 0 (markS (superM q p)), flushS] := by
 have e : checkE l p q = 0 := by unfold checkE; rw [if_neg (by rw [h]; decide), if_pos hc]
 exact ⟨e, by unfold checkL; rw [if_pos e]⟩
theorem all_take {α : Type} {p : α -> Bool} {l : List α} {k : Nat} (hk : k < l.length) (h : (l.take k).all p = true) (hc : p l[k] = true) : (l.take (k + 1)).all p = true := by
 rw [List.take_succ_eq_append_getElem hk, List.all_append, h]
 simp [hc]
theorem map_take {α β : Type} {f : α -> β} {l : List α} {k : Nat} (hk : k < l.length) : (l.take (k + 1)).map f = (l.take k).map f ++ [f l[k]] := by
 rw [List.take_succ_eq_append_getElem hk, List.map_append]; rfl
theorem room2 {n m : Nat} (h : n = m) (hm : m <= 6000000000000) : (n + 2 + (n + 2) / 4 + 192) * 32 <= 281474976710656 /\ n + 2 <= 140737488355328 := by subst h; omega
theorem cpyOk_iff (c : Cpy) : cpyOk c = true ↔ (0 <= c.block /\ c.block < 12) /\ c.text.size = 32 := by
 unfold cpyOk isBlk ok32; simp
end Wb
namespace Go.Proofs.YtjhmfljlclajnadGreatDoor
open Go.RowKit Wb
theorem seal_Check (l : List Cpy) (p q : Int) (v : Value) (w : World) (h : RL cpyC w v l) (hl : l.length <= 5864062014805) (hF : Sl w (flR 0).v 1 (flR 0).cs) :
    Calls Tryz.prog 50 #[v, .int .i64 p, .int .i64 q] w fun e w' => ∃ v', e = .returned (.tuple #[v', .int .i64 (checkE l p q)]) /\ Wb.Own stpC w.heap.size 118 3 w' v' (checkL l p q) /\ Below w.heap.size w w' := by
 obtain ⟨a, cap, rfl, _⟩ := h.form
 have hE := fun w => stamp_Encode (superM q p) _ w (superM_read w q p)
 have hW := fun x s w => seal_write x s w
 have X : St [] w w [] [flR 0] := (St.start [] w).addR0 hF
 replace hE := hid hE; replace hW := hid hW
 by_cases hM : markE (superM q p) = 0
 ·rw [hM] at hE
  have hbad := fun k (hk : k < l.length) (hc : cpyOk l[k] = false) => checkE_form hM hk hc
  have hok := fun (hc : l.all cpyOk = true) => checkE_ok hM hc
  have hat := fun k (hk : k < l.length) (h : (l.take k).all cpyOk = true) (hc : cpyOk l[k] = true) => all_take hk h hc
  have hmt := fun k (hk : k < l.length) => map_take (f := goS) hk
  have hfu : l.take l.length = l := List.take_length
  have hho : homeS l = l.map goS ++ (if l = [] then [] else [flushS]) := rfl
  have hnil : (l = []) ↔ l.length = 0 := List.length_eq_zero_iff.symm
  rw [hho] at hok
  generalize checkE l p q = E at *
  generalize checkL l p q = C at *
  generalize markS (superM q p) = ms at *
  replace h := hid h; replace hbad := hid hbad; replace hok := hid hok; replace hat := hid hat; replace hmt := hid hmt; replace hfu := hid hfu; replace hnil := hid hnil
  clear hho hM hF
  go_enter Tryz.func50, Tryz.ntmps50
  go_wp2_with (first
   | (go_at_call 35; ((with_reducible refine (hE.out _).mono ?_); rintro e w1 ⟨rfl, hb1⟩; replace X := X.call hb1; clear hb1)))
  go_loopw [10, 25] (fun o i wr => ∃ (k : Nat) (M : List Ent), k <= l.length /\ i = .int .i64 k /\ Hid ((l.take k).all cpyOk = true) /\ OwnM stpC 118 3 o ((l.take k).map goS) M /\ St [] w wr (M ++ []) [flR 0]) (fun _ i _ => l.length - (intOf i).toNat)
  case atStart => exact ⟨0, [], Nat.zero_le _, rfl, hid rfl, OwnM.nil _ _ _, X⟩
  case round =>
   clear X
   obtain ⟨k, M, hk, rfl, hal, hO, X⟩ := hrel
   have hlk : ((l.take k).map goS).length = k := by rw [List.length_map, List.length_take]; omega
   obtain ⟨ao, co, rfl⟩ := hO.form
   rw [hlk] at hO ⊢
   by_cases hlt : k < l.length
   ·obtain ⟨b1, o1, rfl, c0, c1⟩ := RL.at2 (fun x => .int .i64 x.block) (fun x => .string x.text) (fun _ => rfl) (h.out.below X.below) hlt
    have hb := hbad.out k hlt
    have ha := hat.out k hlt hal.out
    have hm := hmt.out k hlt
    generalize l[k] = x at *
    generalize (l.take k).map goS = ls at *
    obtain ⟨xb, xt⟩ := x
    dsimp only at *
    have hci := cpyOk_iff ⟨xb, xt⟩
    dsimp only at hci
    cases hc : cpyOk ⟨xb, xt⟩ with
    | true =>
     obtain ⟨⟨y0, y1⟩, y2⟩ := hci.1 hc
     have ha := ha hc
     replace ha := hid ha; replace hm := hid hm
     have y3 : ((xt.size : Int) != 32) = false := by rw [y2]; rfl
     have d1 : decide (xb < 0) = false := decide_eq_false (by omega)
     have d2 : decide (12 <= xb) = false := decide_eq_false (by omega)
     clear hci hc hb
     have hr1 : (ls.length + 1 + (ls.length + 1) / 4 + 192) * 32 <= 281474976710656 := by omega
     have hr2 : ls.length + 1 <= 140737488355328 := by omega
     have hgo : [goS ⟨xb, xt⟩].flatMap stpC = [.int .i64 1, .int .i64 (25 + xb), .string xt] := rfl
     go_wp2_with (first
      | (refine ZcL ?_) | (refine ZcS ?_; clear X; intro w X) | (refine ZcA ?_; clear X; intro g w X)
      | (go_at_call 76; ((with_reducible refine (hW.out _ _ _).mono ?_); rintro e w1 ⟨rfl, hb1⟩; replace X := X.call hb1; clear hb1))
      | (refine at_build rfl ?_; (refine m_build1 rfl rfl Zev (by rfl) (by rfl) X ?_; intro g w2 X2; replace X := X2; clear X2; (simp only [Act.put, zA, zB, zC, zD, zE, zF, zG, Nat.reduceAdd])))
      | (at_builtin; ((refine m_appB (M := M) (T := []) (n := 1) [_] rfl rfl [goS ⟨xb, xt⟩] stpC_flat X hO Zev Zev hgo rfl hr1 hr2 ?_); intro a2 c2 w2 M2 hO2 X2; (simp only [Act.put, zA, zB, zC, zD, zE, zF, zG, Nat.reduceAdd]))))
     rw [hlk]
     go_roundw
     case rel => exact ⟨k + 1, M2, by omega, by go_num, ha, by rw [hm.out, <- hlk]; exact hO2, X2.tail⟩
     case measure => simp [intOf]; omega
    | false =>
     obtain ⟨e1, e2⟩ := hb hc
     subst e1 e2
     have hn : ¬ ((0 <= xb /\ xb < 12) /\ xt.size = 32) := fun h => by rw [hci.2 h] at hc; cases hc
     clear hci hc hb ha hm
     by_cases z1 : xb < 0
     ·have d1 : decide (xb < 0) = true := decide_eq_true z1
      go_wp2_with (first
       | (refine ZcL ?_) | (refine ZcS ?_; clear X; intro w X) | (refine ZcA ?_; clear X; intro g w X))
      go_ret2
      exact ⟨_, rfl, Own.nil _ _ _ _ _, X.below⟩
     ·have d1 : decide (xb < 0) = false := decide_eq_false z1
      by_cases z2 : 12 <= xb
      ·have d2 : decide (12 <= xb) = true := decide_eq_true z2
       go_wp2_with (first
        | (refine ZcL ?_) | (refine ZcS ?_; clear X; intro w X) | (refine ZcA ?_; clear X; intro g w X))
       go_ret2
       exact ⟨_, rfl, Own.nil _ _ _ _ _, X.below⟩
      ·have d2 : decide (12 <= xb) = false := decide_eq_false z2
       have y3 : ((xt.size : Int) != 32) = true := bne_iff_ne.2 (fun h => hn ⟨by omega, by omega⟩)
       clear hn
       go_wp2_with (first
        | (refine ZcL ?_) | (refine ZcS ?_; clear X; intro w X) | (refine ZcA ?_; clear X; intro g w X))
       go_ret2
       exact ⟨_, rfl, Own.nil _ _ _ _ _, X.below⟩
   ·have hkl : k = l.length := by omega
    have hts : l.take k = l := by rw [hkl, List.take_length]
    obtain ⟨e1, e2⟩ := hok.out (by rw [<- hts]; exact hal.out)
    have e3 : C = (l.take k).map goS ++ (if k = 0 then [] else [flushS]) ++ [wrS 0 ms, flushS] := by
     rw [e2, hts]
     by_cases hz : l = []
     ·rw [if_pos hz, if_pos (by rw [hkl]; exact hnil.out.1 hz)]
     ·rw [if_neg hz, if_neg (fun h => hz (hnil.out.2 (by omega)))]
    clear hal hbad hok hat hmt e2 hts hnil hfu
    generalize (l.take k).map goS = ls at *
    have hfl : [wrS 0 ms, flushS].flatMap stpC = [.int .i64 1, .int .i64 0, .string ms, .int .i64 2, .int .i64 0, .string ⟨#[]⟩] := rfl
    have hli : ((k : Int) < (l.length : Int)) = False := eq_false (by omega)
    by_cases hz : k = 0
    ·rw [if_pos hz] at e3
     have hzi : decide (0 < k) = false := decide_eq_false (by omega)
     have hr3 : (ls.length + 2 + (ls.length + 2) / 4 + 192) * 32 <= 281474976710656 := by omega
     have hr4 : ls.length + 2 <= 140737488355328 := by omega
     clear hz
     replace e3 := hid e3
     replace hkl := hid hkl
     go_wp2
     (refine q_startS 0 [] [2, 4, 5] [3] [0, 1, 3, 2, 4, 5, 6, 7] X ?_; clear X; intro hQ X hL; simp only [zF, zG] at hL; simp only [zF, zG])
     refine Zm ?_
     refine Zm ?_
     (refine q_rd0 rfl rfl rfl Zfl (by rfl) rfl rfl X hL hQ ?_; (simp only [Act.put, zA, zB, zC, zD, zE, zF, zG, Nat.reduceAdd]))
     (refine q_callS 76 Tryz.func76 (hW.out _ _ _) ?_; rintro e w1 ⟨rfl, hb1⟩; replace X := X.call hb1; clear hb1; refine Zce ?_; clear hL; intro hL)
     (refine q_build2 rfl rfl Zev Zev (by rfl) (by rfl) (by rfl) (by rfl) X hL rfl rfl ?_; intro g w X2 hL2; (try simp only [List.cons_append, List.nil_append] at X2 hL2); replace X := X2; replace hL := hL2; clear X2 hL2; (simp only [Act.put, zA, zB, zC, zD, zE, zF, zG, Nat.reduceAdd]))
     (refine q_appB (M := M) (T := []) (n := 2) [] rfl rfl [wrS 0 ms, flushS] stpC_flat X hO Zev Zev hfl rfl hr3 hr4 hL (List.nil_sublist _) rfl rfl ?_; intro a3 c3 w3 M3 hO3 X3 hL3; replace X := X3; replace hL := hL3; clear X3 hL3; (simp only [Act.put, zA, zB, zC, zD, zE, zF, zG, Nat.reduceAdd]))
     refine Za ?_
     refine Za ?_
     refine q_nil ?_
     go_wp2
     go_ret2
     subst e1
     exact ⟨_, rfl, by rw [e3.out, List.append_nil]; exact hO3.own (L := []) stpC_flat X, X.below⟩
    ·rw [if_neg hz] at e3
     have hzi : decide (0 < k) = true := decide_eq_true (by omega)
     have hr1 : (ls.length + 1 + (ls.length + 1) / 4 + 192) * 32 <= 281474976710656 := by omega
     have hr2 : ls.length + 1 <= 140737488355328 := by omega
     have hlf : (ls ++ [flushS]).length = k + 1 := by rw [List.length_append, hlk]; rfl
     obtain ⟨hr3, hr4⟩ := room2 hlf (by omega)
     have hgo : [flushS].flatMap stpC = [.int .i64 2, .int .i64 0, .string ⟨#[]⟩] := rfl
     clear hz hlf
     replace e3 := hid e3
     replace hkl := hid hkl
     go_wp2_with (first
      | (refine at_mem rfl ?_; refine m_rd0 rfl rfl rfl X Zfl (by rfl) ?_; (simp only [Act.put, zA, zB, zC, zD, zE, zF, zG, Nat.reduceAdd]))
      | (refine at_build rfl ?_; (refine m_build1 rfl rfl Zev (by rfl) (by rfl) X ?_; intro g w2 X2; replace X := X2; clear X2; (simp only [Act.put, zA, zB, zC, zD, zE, zF, zG, Nat.reduceAdd])))
      | (at_builtin; ((refine m_appB (M := M) (T := []) (n := 1) [] rfl rfl [flushS] stpC_flat X hO Zev Zev hgo rfl hr1 hr2 ?_); intro a2 c2 w2 M2 hO2 X2; replace X := X2; clear X2; (simp only [Act.put, zA, zB, zC, zD, zE, zF, zG, Nat.reduceAdd]))))
     (refine q_startS 0 [] [2, 4, 5] [3] [0, 1, 3, 2, 4, 5, 6, 7] X ?_; clear X; intro hQ X hL; simp only [zF, zG] at hL; simp only [zF, zG])
     refine Zm ?_
     refine Zm ?_
     (refine q_rd0 rfl rfl rfl Zfl (by rfl) rfl rfl X hL hQ ?_; (simp only [Act.put, zA, zB, zC, zD, zE, zF, zG, Nat.reduceAdd]))
     (refine q_callS 76 Tryz.func76 (hW.out _ _ _) ?_; rintro e w1 ⟨rfl, hb1⟩; replace X := X.call hb1; clear hb1; refine Zce ?_; clear hL; intro hL)
     (refine q_build2 rfl rfl Zev Zev (by rfl) (by rfl) (by rfl) (by rfl) X hL rfl rfl ?_; intro g w X2 hL2; (try simp only [List.cons_append, List.nil_append] at X2 hL2); replace X := X2; replace hL := hL2; clear X2 hL2; (simp only [Act.put, zA, zB, zC, zD, zE, zF, zG, Nat.reduceAdd]))
     (refine q_appB (M := M2) (T := []) (n := 2) [] rfl rfl [wrS 0 ms, flushS] stpC_flat X hO2 Zev Zev hfl rfl hr3 hr4 hL (List.nil_sublist _) rfl rfl ?_; intro a3 c3 w3 M3 hO3 X3 hL3; replace X := X3; replace hL := hL3; clear X3 hL3; (simp only [Act.put, zA, zB, zC, zD, zE, zF, zG, Nat.reduceAdd]))
     refine Za ?_
     refine Za ?_
     refine q_nil ?_
     go_wp2
     go_ret2
     subst e1
     exact ⟨_, rfl, by rw [e3.out]; exact hO3.own (L := []) stpC_flat X, X.below⟩
 ·obtain ⟨e1, e2⟩ := checkE_bad (l := l) hM
  rw [e1, e2]
  generalize markE (superM q p) = E at *
  have hne : (E != 0) = true := bne_iff_ne.2 hM
  clear hF h
  go_enter Tryz.func50, Tryz.ntmps50
  go_wp2_with (first
   | (go_at_call 35; ((with_reducible refine (hE.out _).mono ?_); rintro e w1 ⟨rfl, hb1⟩; replace X := X.call hb1; clear hb1)))
  go_ret2
  exact ⟨_, rfl, Own.nil _ _ _ _ _, X.below⟩
theorem seal_log (s : ByteArray) (p : Int) (hp : 0 <= p /\ p < 24) {S : List Nat} {w0 w : World} {A M T : List Ent} {R : List Rd} {g12 g10 ga k m c n n' cap : Nat} {cs : List Value} {v : Value} {l : List Stp}
    (X : St S w0 w (⟨g12, [v], 67⟩ :: ⟨g10, [.slice (some ⟨ga, k, none⟩) m c], 38⟩ :: (A ++ (M ++ T))) R) (hO : OwnM stpC 118 3 v l M) (hR : ⟨.slice (some ⟨ga, 0, none⟩) n' cap, n, cs⟩ ∈ R) (hk : cs[k]? = some (.int .i64 p)) (hm : 0 < m) (hmc : m <= c) (hl : l.length <= 1000) :
    Calls Tryz.prog 83 #[.string s, .pointer (some ⟨g12, 0, none⟩), .pointer (some ⟨g10, 0, none⟩)] w fun e w' => ∃ u v' at' M', e = .returned u /\ OwnM stpC 118 3 v' (l ++ [atW p s]) M' /\ (1 < m -> at' = .slice (some ⟨ga, k + 1, none⟩) (m - 1) (c - 1)) /\
      St S w0 w' (⟨g12, [v'], 67⟩ :: ⟨g10, [at'], 38⟩ :: (A ++ (M' ++ T))) R := by
 obtain ⟨hp0, hp1⟩ := hp
 have hW := fun x s w => seal_write x s w
 have hgo : [atW p s].flatMap stpC = [.int .i64 1, .int .i64 (1 + p), .string s] := rfl
 have h40 : l.length + 1 <= 1099511627776 := by omega
 obtain ⟨ao, co, rfl⟩ := hO.form
 have m1 : 1 <= m := hm
 have c1 : 1 <= c := by omega
 have hwr : IntKind.i64.wrap (1 + p) = 1 + p := IntWalk.i64_in _ (by omega)
 replace hW := hid hW
 go_enter Tryz.func83, Tryz.ntmps83
 go_wp2
 (refine q_startS 2 [9] [6, 7, 8, 9] [0, 1, 3] [0, 1, 2, 3, 4, 5, 6, 7, 8, 9] X ?_; clear X; intro hQ X hL; simp only [zF, zG] at hL; simp only [zF, zG])
 refine Zl ?_
 refine Zl ?_
 refine Zg ?_
 (refine q_cell0 rfl rfl Zev hR hk rfl rfl X hL hQ ?_; (simp only [Act.put, zA, zB, zC, zD, zE, zF, zG, Nat.reduceAdd]))
 refine Zg ?_
 refine Zm ?_
 (refine q_callS 76 Tryz.func76 (hW.out _ _ _) ?_; rintro e w1 ⟨rfl, hb1⟩; replace X := X.call hb1; clear hb1; refine Zce ?_; clear hL; intro hL)
 (refine q_build1 rfl rfl Zev (by rfl) (by rfl) X hL rfl rfl ?_; intro g w X2 hL2; replace X := X2; replace hL := hL2; clear X2 hL2; (simp only [Act.put, zA, zB, zC, zD, zE, zF, zG, Nat.reduceAdd]))
 (refine q_app (M := M) (T := T) (n := 1) (_ :: _ :: A) rfl rfl [atW p s] stpC_flat X hO Zev Zev hgo rfl h40 hL (.cons_cons _ (.cons_cons _ (List.nil_sublist _))) rfl rfl ?_; intro a2 c2 w2 M2 hO2 X2 hL2; replace X := X2; replace hL := hL2; clear X2 hL2; (simp only [Act.put, zA, zB, zC, zD, zE, zF, zG, Nat.reduceAdd]))
 (refine Zb ?_; clear X; intro w X)
 refine q_nil ?_
 go_wp2_with (first
  | (refine ZcL ?_) | (refine ZcS ?_; clear X; intro w X) | (refine ZcA ?_; clear X; intro g w X))
 all_goals exact bodyPost_end (results_none rfl _ _ _) rfl ⟨⟨_, rfl⟩, _, _, _, hO2, fun h => (by first | rfl | (exfalso; omega) | (rw [if_neg (by omega)])), X⟩
theorem seal_mark (kd at_ : Int) (x0 q : Int) (vt vb : Value) (mk : Mrk) (p : Int) (hp : 0 <= p /\ p < 24) {S : List Nat} {w0 w : World} {A M T : List Ent} {R : List Rd} {g12 g10 g15 g3 ga k m c n n' cap : Nat} {cs tcs : List Value} {t3 : TypeId} {v : Value} {l : List Stp}
    (hmk : ∀ w' L', St S w0 w' L' R -> RMark w' (.agg #[.int .i64 kd, .int .i64 q, .int .i64 at_, vt, vb]) mk)
    (X : St S w0 w (⟨g12, [v], 67⟩ :: ⟨g10, [.slice (some ⟨ga, k, none⟩) m c], 38⟩ :: ⟨g15, [.func (.func 83) #[] #[.pointer (some ⟨g12, 0, none⟩), .pointer (some ⟨g10, 0, none⟩)]], 164⟩ :: ⟨g3, .int .i64 q :: tcs, t3⟩ :: (A ++ (M ++ T))) R) (hO : OwnM stpC 118 3 v l M) (hR : ⟨.slice (some ⟨ga, 0, none⟩) n' cap, n, cs⟩ ∈ R) (hk : cs[k]? = some (.int .i64 p)) (hm : 0 < m) (hmc : m <= c) (hl : l.length <= 1000) :
    Calls Tryz.prog 84 #[.agg #[.int .i64 kd, .int .i64 x0, .int .i64 at_, vt, vb], .pointer (some ⟨g3, 0, none⟩), .pointer (some ⟨g15, 0, none⟩)] w fun e w' => ∃ u v' at' M', e = .returned u /\ OwnM stpC 118 3 v' (l ++ [atW p (markS mk)]) M' /\ (1 < m -> at' = .slice (some ⟨ga, k + 1, none⟩) (m - 1) (c - 1)) /\
      St S w0 w' (⟨g12, [v'], 67⟩ :: ⟨g10, [at'], 38⟩ :: ⟨g15, [.func (.func 83) #[] #[.pointer (some ⟨g12, 0, none⟩), .pointer (some ⟨g10, 0, none⟩)]], 164⟩ :: ⟨g3, .int .i64 q :: tcs, t3⟩ :: (A ++ (M' ++ T))) R := by
 have hE := fun w' L' (X' : St S w0 w' L' R) => stamp_Encode mk _ w' (hmk w' L' X')
 have hL := fun s w (X : St S w0 w (⟨g12, [v], 67⟩ :: ⟨g10, [.slice (some ⟨ga, k, none⟩) m c], 38⟩ :: ⟨g15, [.func (.func 83) #[] #[.pointer (some ⟨g12, 0, none⟩), .pointer (some ⟨g10, 0, none⟩)]], 164⟩ :: ⟨g3, .int .i64 q :: tcs, t3⟩ :: (A ++ (M ++ T))) R) => seal_log s p hp (A := ⟨g15, [.func (.func 83) #[] #[.pointer (some ⟨g12, 0, none⟩), .pointer (some ⟨g10, 0, none⟩)]], 164⟩ :: ⟨g3, .int .i64 q :: tcs, t3⟩ :: A) X hO hR hk hm hmc hl
 generalize markS mk = ms at *
 generalize markE mk = me at *
 replace hE := hid hE; replace hL := hid hL; replace hR := hid hR; replace hk := hid hk
 clear hmk
 go_enter Tryz.func84, Tryz.ntmps84
 go_wp2_with (first
  | (refine ZcL ?_) | (refine ZcS ?_; clear X; intro w X) | (refine ZcA ?_; clear X; intro g w X)
  | (go_at_call 35; ((with_reducible refine (hE.out _ _ X).mono ?_); rintro e w1 ⟨rfl, hb1⟩; replace X := X.call hb1; clear hb1))
  | (go_at_call 83; ((with_reducible refine (hL.out _ _ X.tail).mono ?_); rintro e w1 ⟨u, v2, at2, M2, rfl, hO2, hat, X2⟩; replace X := X2; clear X2)))
 exact bodyPost_end (results_none rfl _ _ _) rfl ⟨_, _, _, _, rfl, hO2, hat, X⟩
theorem pre_isEsc (s : ByteArray) : Lib.hasPrefix s.data.toList [87, 66, 75, 49] = isEsc s := by
 rw [<- Lib.hasPrefix_of_take, Bool.eq_iff_iff, Bool.and_eq_true, decide_eq_true_iff, beq_iff_eq]
 constructor
 ·intro hh
  exact decide_eq_true hh.2
 ·intro hh
  exact ⟨by rw [ba_len]; exact isEsc_len hh, of_decide_eq_true hh⟩
theorem take_isEsc (s : ByteArray) : ((s.extract 0 4).toList == [87, 66, 75, 49]) = isEsc s := by
 rw [Lib.toList_data, Lib.extract_data, List.drop_zero]
 unfold isEsc
 rw [Bool.eq_iff_iff, decide_eq_true_iff, beq_iff_eq]
 rfl
theorem drop_str (p : List UInt8) (s : ByteArray) (h : 4 <= s.size) : str p ++ s.extract 4 s.size = str (p ++ s.data.toList.drop 4) := by
 apply ba_ext
 rw [ByteArray.data_append, Array.toList_append, Lib.extract_data, List.take_of_length_le (by rw [List.length_drop, ba_len]; omega)]
 simp [str]
theorem stamp_Escape (s : ByteArray) (w : World) (hs : s.size <= 9223372036854775807) :
    Calls Tryz.prog 87 #[.string s] w fun e w' => e = .returned (.tuple #[.string (escS s), .bool (isEsc s)]) /\ Below w.heap.size w w' := by
 have hP := fun w => Tryz.strings_HasPrefix s ⟨#[87, 66, 75, 49]⟩ w
 have hb := pre_isEsc s
 dsimp only at hP
 rw [hb] at hP
 clear hb
 cases hc : isEsc s
 ·rw [hc] at hP
  have hv : escS s = s := by unfold escS; rw [hc]; rfl
  rw [hv]
  replace hP := hid hP
  go_enter Tryz.func87, Tryz.ntmps87
  go_wp2_with (go_at_call 41; refine (hP.out _).mono ?_; rintro e w1 ⟨rfl, rfl⟩)
  go_ret2
  exact ⟨rfl, by exact Zlo⟩
 ·rw [hc] at hP
  have h4 := isEsc_len hc
  have hv : (⟨#[0, 0, 0, 0]⟩ : ByteArray) ++ s.extract 4 s.size = escS s := by unfold escS; rw [hc]; exact drop_str [0, 0, 0, 0] s h4
  have hx : (s.extract 4 s.size).size = s.size - 4 := by simp
  replace hP := hid hP
  go_enter Tryz.func87, Tryz.ntmps87
  go_wp2_with (go_at_call 41; refine (hP.out _).mono ?_; rintro e w1 ⟨rfl, rfl⟩)
  go_ret2
  exact ⟨rfl, by exact Zlo⟩
theorem stamp_Unescape (s : ByteArray) (e : Bool) (w : World) (hs : s.size <= 9223372036854775807) :
    Calls Tryz.prog 106 #[.string s, .bool e] w fun r w' => r = .returned (.string (unescS s e)) /\ Below w.heap.size w w' := by
 by_cases h4 : 4 <= s.size
 ·have hx : (s.extract 4 s.size).size = s.size - 4 := by simp
  have hv1 : (⟨#[87, 66, 75, 49]⟩ : ByteArray) ++ s.extract 4 s.size = unescS s true := by unfold unescS; rw [if_pos ⟨rfl, h4⟩]; exact drop_str magic s h4
  have hv0 : unescS s false = s := by unfold unescS; simp
  cases e
  ·rw [hv0]
   clear hv1
   go_enter Tryz.func106, Tryz.ntmps106
   go_wp2
   go_ret
   exact ⟨rfl, by exact Zlo⟩
  ·go_enter Tryz.func106, Tryz.ntmps106
   go_wp2
   go_ret
   exact ⟨rfl, by exact Zlo⟩
 ·have hv : unescS s e = s := by unfold unescS; rw [if_neg (fun hh => h4 hh.2)]
  rw [hv]
  cases e
  all_goals
   go_enter Tryz.func106, Tryz.ntmps106
   go_wp2
   go_ret
   exact ⟨rfl, by exact Zlo⟩
end Go.Proofs.YtjhmfljlclajnadGreatDoor
