/- The walks of package slices: BinarySearch at numbers; drop. Where the fields of structs lie. The walk of Revoke. -/
import Derived.Test.YtjhmfljlclajnacKTxnFits6
import Derived.Test.YtjhmfljlclajnacKTxnFits3
import Derived.Test.YtjhmfljlclajnacKTxnFits1
import Derived.Test.YtjhmfljlclajnacKTxnFits5
namespace Wb
open Go Go.RowKit
theorem posI_of {l : List Int} {b : Int} {i : Nat} (hi : i ≤ l.length) (h1 : ∀ k (hk : k < l.length), k < i → l[k] < b) (h2 : ∀ k (hk : k < l.length), i ≤ k → b ≤ l[k]) : posI l b = i := by
  unfold posI
  have e : l.filter (fun x => decide (x < b)) = l.take i := by
    conv => lhs; rw [← List.take_append_drop i l, List.filter_append]
    rw [List.filter_eq_self.2, List.filter_eq_nil_iff.2, List.append_nil]
    · intro c hc
      obtain ⟨k, hk, rfl⟩ := List.mem_iff_getElem.1 hc
      rw [List.getElem_drop]
      rw [List.length_drop] at hk
      have := h2 (i + k) (by omega) (by omega)
      simpa using this
    · intro c hc
      obtain ⟨k, hk, rfl⟩ := List.mem_iff_getElem.1 hc
      rw [List.getElem_take]
      rw [List.length_take] at hk
      exact decide_eq_true (h1 k (by omega) (by omega))
  rw [e, List.length_take]
  omega
theorem inI_of {l : List Int} {b : Int} {i : Nat} (hs : l.Pairwise (· < ·)) (h1 : ∀ k (hk : k < l.length), k < i → l[k] < b) (h2 : ∀ k (hk : k < l.length), i ≤ k → b ≤ l[k]) :
    inI l b = true ↔ ∃ h : i < l.length, l[i] = b := by
  rw [inI_iff]
  constructor
  · intro hb
    obtain ⟨k, hk, hb⟩ := List.mem_iff_getElem.1 hb
    have hik : i ≤ k := by
      by_cases hki : k < i
      · have := h1 k hk hki; omega
      · omega
    refine ⟨by omega, ?_⟩
    by_cases e : i = k
    · subst e; exact hb
    · have := List.pairwise_iff_getElem.1 hs i k (by omega) hk (by omega)
      have := h2 i (by omega) (Nat.le_refl _)
      omega
  · rintro ⟨h, hb⟩
    exact hb ▸ List.getElem_mem h
end Wb
namespace Go.Proofs.Ytjhmfljlclajnac
open Go.RowKit Wb
set_option linter.unusedVariables false
set_option linter.unusedSimpArgs false
set_option maxRecDepth 100000
set_option maxHeartbeats 8000000
theorem cmp_isNaN (x : Int) (w : World) : Calls Try.prog 75 #[.int .i64 x] w fun e w' => e = .returned (.bool false) ∧ w = w' := by
  go_enter Try.func75, Try.ntmps75
  go_wp2
  go_ret
  exact ⟨by simp, rfl⟩
theorem slices_isNaN (x : Int) (w : World) : Calls Try.prog 58 #[.int .i64 x] w fun e w' => e = .returned (.bool false) ∧ w = w' := by
  go_enter Try.func58, Try.ntmps58
  go_wp2
  go_ret
  exact ⟨by simp, rfl⟩
theorem cmp_Less (x y : Int) (w : World) : Calls Try.prog 57 #[.int .i64 x, .int .i64 y] w fun e w' => e = .returned (.bool (decide (x < y))) ∧ w = w' := by
  have h1 := fun x w => cmp_isNaN x w
  replace h1 := hid h1
  go_enter Try.func57, Try.ntmps57
  go_wp2_with (go_at_call 75; refine (h1.out _ _).mono ?_; rintro e w1 ⟨rfl, rfl⟩)
  all_goals go_ret
  all_goals exact ⟨by simp, rfl⟩
theorem slices_BinarySearchI (l : List Int) (b : Int) (v : Value) (w : World) (hs : l.Pairwise (· < ·)) (h : RL intC w v l) (hl : l.length ≤ 17592186044160) :
    Calls Try.prog 39 #[v, .int .i64 b] w fun e w' => e = .returned (.tuple #[.int .i64 (posI l b : Nat), .bool (inI l b)]) ∧ w = w' := by
  obtain ⟨a, cap, rfl, _⟩ := h.form
  have hr := hid (fun k (hk : k < l.length) i (hi : i < k) => List.pairwise_iff_getElem.1 hs i k (by omega) hk hi)
  have hpo := hid (fun i h0 h1 h2 => posI_of (l := l) (b := b) (i := i) h0 h1 h2)
  have hha := hid (fun i h1 h2 => inI_of (l := l) (b := b) (i := i) hs h1 h2)
  generalize posI l b = p at *
  generalize inI l b = hb at *
  have hC := hid (fun x y w => cmp_Less x y w)
  have hN := hid (fun x w => slices_isNaN x w)
  replace h := hid h
  clear hs
  go_enter Try.func39, Try.ntmps39
  go_wp2
  go_loop [7, 8, 9] (fun s7 s8 _ => ∃ lo hi : Nat, s7 = .int .i64 lo ∧ s8 = .int .i64 hi ∧ lo ≤ hi ∧ hi ≤ l.length ∧ Hid (∀ k (hk : k < l.length), k < lo → l[k] < b) ∧ Hid (∀ k (hk : k < l.length), hi ≤ k → b ≤ l[k])) (fun s7 s8 _ => (intOf s8 - intOf s7).toNat)
  case atStart => exact ⟨0, l.length, rfl, rfl, Nat.zero_le _, Nat.le_refl _, hid (fun k _ hk => absurd hk (Nat.not_lt_zero k)), hid (fun k hk h2 => by omega)⟩
  case round =>
    obtain ⟨lo, hi, rfl, rfl, hlh, hin, i1, i2⟩ := hrel
    by_cases hlt : lo < hi
    · have hm : (lo + hi) / 2 < l.length := by omega
      obtain ⟨b1, o1, rfl, c0⟩ := RL.at1 (fun x => .int .i64 x) (fun _ => rfl) h.out hm
      have j1 := hid (fun (hh : l[(lo + hi) / 2] < b) => (show ∀ k (hk : k < l.length), k < (lo + hi) / 2 + 1 → l[k] < b from fun k hk hk2 => by
        by_cases e : k = (lo + hi) / 2
        · subst e; exact hh
        · have := hr.out _ hm k (by omega); omega))
      have j2 := hid (fun (hh : b ≤ l[(lo + hi) / 2]) => (show ∀ k (hk : k < l.length), (lo + hi) / 2 ≤ k → b ≤ l[k] from fun k hk hk2 => by
        by_cases e : k = (lo + hi) / 2
        · subst e; exact hh
        · have := hr.out k hk _ (show (lo + hi) / 2 < k by omega); omega))
      generalize l[(lo + hi) / 2] = x at *
      have hCx := hC.out x b w
      by_cases hx : x < b
      · rw [decide_eq_true hx] at hCx
        replace j1 := hid (j1.out hx)
        replace hCx := hid hCx
        clear j2 hx
        go_wp2_with (go_at_call 57; go_loud ((with_reducible refine (hCx.out).mono ?_); rintro e w1 ⟨rfl, rfl⟩))
        go_round
        case measure => simp [intOf]; omega
        case rel => exact ⟨(lo + hi) / 2 + 1, hi, by rw [show ((lo : Int) + (hi : Int)) / 2 + 1 = (((lo + hi) / 2 + 1 : Nat) : Int) by omega], rfl, by omega, hin, j1, i2⟩
      · rw [decide_eq_false hx] at hCx
        replace j2 := hid (j2.out (by omega))
        replace hCx := hid hCx
        clear j1 hx
        go_wp2_with (go_at_call 57; go_loud ((with_reducible refine (hCx.out).mono ?_); rintro e w1 ⟨rfl, rfl⟩))
        go_round
        case measure => simp [intOf]; omega
        case rel => exact ⟨lo, (lo + hi) / 2, rfl, by rw [show ((lo : Int) + (hi : Int)) / 2 = (((lo + hi) / 2 : Nat) : Int) by omega], by omega, by omega, i1, j2⟩
    · obtain rfl : hi = lo := by omega
      have hp := hid (hpo.out hi hin i1.out i2.out)
      have hh := hid (hha.out hi i1.out i2.out)
      by_cases hn : hi < l.length
      · obtain ⟨b1, o1, rfl, c0⟩ := RL.at1 (fun x => .int .i64 x) (fun _ => rfl) h.out hn
        have hge := i2.out hi hn (Nat.le_refl _)
        have hh2 : hb = true ↔ l[hi] = b := ⟨fun h => (hh.out.1 h).2, fun h => hh.out.2 ⟨hn, h⟩⟩
        clear i1 i2 hh
        generalize l[hi] = x at *
        by_cases hx : x = b
        · have hv := hid (hh2.2 hx)
          have e1 : (x == b) = true := beq_iff_eq.2 hx
          clear hge hh2 hx
          go_wp2_with (go_at_call 58; go_loud ((with_reducible refine (hN.out _ _).mono ?_); rintro e w1 ⟨rfl, rfl⟩))
          go_ret2
          exact ⟨by rw [hp.out, hv.out]; rfl, rfl⟩
        · have hv := hid (show hb = false by
            cases hbv : hb with
            | false => rfl
            | true => exact absurd (hh2.1 hbv) hx)
          have e1 : (x == b) = false := beq_eq_false_iff_ne.2 hx
          clear hge hh2 hx
          go_wp2_with (go_at_call 58; go_loud ((with_reducible refine (hN.out _ _).mono ?_); rintro e w1 ⟨rfl, rfl⟩))
          go_ret2
          exact ⟨by rw [hp.out, hv.out]; rfl, rfl⟩
      · have hv := hid (show hb = false by
          cases hbv : hb with
          | false => rfl
          | true => obtain ⟨h1, _⟩ := hh.out.1 hbv; omega)
        clear hh i1 i2
        go_wp2
        go_ret2
        exact ⟨by rw [hp.out, hv.out]; rfl, rfl⟩
theorem txn_drop (l : List Cpy) (b : Int) (v : Value) (w : World) (h : RL cpyC w v l) (hl : l.length ≤ 5864062014805) :
    Calls Try.prog 38 #[v, .int .i64 b] w fun e w' => ∃ v', e = .returned v' ∧ Own cpyC w.heap.size 68 2 w' v' (dropC l b) ∧ Below w.heap.size w w' := by
  have hCl := fun w' (hb : Below w.heap.size w w') => slices_CloneC l _ w' (h.below hb) hl
  have hDel := fun v w' gb base h1 h2 h3 h4 => slices_DeleteFuncC l b v gb base w' h1 h2 h3 h4 hl
  have hoff : l.filter (fun x => !(x.block == b)) = dropC l b := rfl
  simp only [hoff] at hDel
  obtain ⟨a, cap, rfl, _⟩ := h.form
  replace hCl := hid hCl; replace hDel := hid hDel
  clear h hoff
  have X := St.start [] w
  go_enter Try.func38, Try.ntmps38
  go_wp2_with (first
    | (refine at_mem rfl ?_; (first | (refine at_load rfl ?_; (first | (refine c_load1 rfl _ _ rfl rfl X (by repeat (first | exact ReadA.here rfl | apply ReadA.there)) ?_) | (refine c_loadN rfl _ _ rfl rfl X (by repeat (first | exact ReadB.here (Nat.le_of_ble_eq_true rfl) | apply ReadB.there)) ?_))) | (refine at_store rfl ?_; (first | (refine c_store1 rfl _ _ _ rfl rfl (by first | exact EvR.const _ | exact EvR.tmp rfl rfl) X rfl rfl (by repeat (first | exact PutA.here (Nat.le_of_ble_eq_true rfl) | apply PutA.there)) ?_; intro w X2; (try simp only [upd] at X2); replace X := X2; clear X2) | (refine c_storeN rfl _ _ _ rfl rfl rfl X rfl rfl (by repeat (first | exact PutA.here (Nat.le_of_ble_eq_true rfl) | apply PutA.there)) ?_; intro w X2; (try simp only [upd] at X2); replace X := X2; clear X2))) | (refine m_alloc rfl _ rfl X ?_; intro g w X2; (replace X := X2; clear X2)) | (refine m_box rfl _ _ rfl (by first | exact EvR.const _ | exact EvR.tmp rfl rfl) rfl X ?_; intro g w X2; (replace X := X2; clear X2))); (simp only [Act.put, List.setIfInBounds_toArray, List.set_cons_succ, List.set_cons_zero, List.drop_succ_cons, List.drop_zero, List.take_succ_cons, List.take_zero, Nat.reduceAdd]))
    | (go_at_call 51; go_loud ((with_reducible refine (hCl.out _ X.below).mono ?_); rintro e w1 ⟨v2, rfl, ho2, hb1⟩; obtain ⟨a2, c2, rfl⟩ := ho2.form; replace hDel := hid (hDel.out _ _ _ _ ho2 hb1.size X.k0.lt ((X.call hb1).k0.cell 0)); replace hb1 := hid hb1; clear ho2))
    | (go_at_call 55; go_loud ((with_reducible refine hDel.out.mono ?_); rintro e w2 ⟨v3, rfl, ho3, hb3⟩; obtain ⟨a3, c3, rfl⟩ := ho3.form; have ho4 := hid (ho3.mono X.mv.size); replace X := X.call (hb1.out.trans hb3); clear hb1 hb3 ho3)))
  go_ret
  exact ⟨_, rfl, ho4.out, X.below⟩
end Go.Proofs.Ytjhmfljlclajnac

namespace Go.Proofs.Ytjhmfljlclajnac
open Go.RowKit Wb
instance : FieldT Try.prog 28 0 0 := ⟨fun _ _ _ => by kernel_rfl⟩
instance : FieldT Try.prog 28 1 1 := ⟨fun _ _ _ => by kernel_rfl⟩
instance : FieldT Try.prog 28 2 2 := ⟨fun _ _ _ => by kernel_rfl⟩
instance : FieldT Try.prog 28 3 3 := ⟨fun _ _ _ => by kernel_rfl⟩
instance : FieldT Try.prog 28 4 4 := ⟨fun _ _ _ => by kernel_rfl⟩
instance : FieldT Try.prog 25 0 0 := ⟨fun _ _ _ => by kernel_rfl⟩
instance : FieldT Try.prog 25 1 1 := ⟨fun _ _ _ => by kernel_rfl⟩
instance : FieldT Try.prog 68 0 0 := ⟨fun _ _ _ => by kernel_rfl⟩
instance : FieldT Try.prog 68 1 1 := ⟨fun _ _ _ => by kernel_rfl⟩
end Go.Proofs.Ytjhmfljlclajnac

namespace Go.Proofs.Ytjhmfljlclajnac
open Go.RowKit Wb
set_option linter.unusedVariables false
set_option linter.unusedSimpArgs false
set_option maxRecDepth 100000
set_option maxHeartbeats 8000000
theorem txn_Revoke (t : Txn) (h b : Int) (vm vd vr : Value) (w : World) (ht : RTxn w (txnV t vm vd vr) t) :
    Calls Try.prog 11 #[txnV t vm vd vr, .int .i64 h, .int .i64 b] w fun e w' => ∃ vm' vd' vr', e = .returned (.tuple #[txnV (rvkT t h b) vm' vd' vr', .int .i64 (rvkE t h b)]) ∧ NewT w.heap.size w' vm vd vr vm' vd' vr' t (rvkT t h b) ∧ Below w.heap.size w w' := by
  have hMay := fun w' (hb : Below w.heap.size w w') => txn_may t h b _ w' (ht.below hb)
  obtain ⟨vm', vd', vr', hvv, hm, hd, hr, n1, n2, n3⟩ := ht
  simp only [txnV, Value.agg.injEq, Array.mk.injEq, List.cons.injEq, and_true, true_and] at hvv
  obtain ⟨rfl, rfl, rfl⟩ := hvv
  obtain ⟨am, cm, rfl, _⟩ := hm.form
  obtain ⟨ad, cd, rfl, _⟩ := hd.form
  obtain ⟨ar, cr, rfl, _⟩ := hr.form
  by_cases hz : mayE t h b = 0
  rotate_left
  · obtain ⟨e1, e2⟩ := rvk_may hz
    rw [e1, e2]
    clear e1 e2
    generalize mayE t h b = E at *
    replace hMay := hid hMay
    clear hm hd hr
    unfold txnV at hMay ⊢
    have X := St.start [] w
    go_enter Try.func11, Try.ntmps11
    go_wp2_with (first
      | (refine at_mem rfl ?_; (first | (refine at_load rfl ?_; (first | (refine c_load1 rfl _ _ rfl rfl X (by repeat (first | exact ReadA.here rfl | apply ReadA.there)) ?_) | (refine c_loadN rfl _ _ rfl rfl X (by repeat (first | exact ReadB.here (Nat.le_of_ble_eq_true rfl) | apply ReadB.there)) ?_))) | (refine at_store rfl ?_; (first | (refine c_store1 rfl _ _ _ rfl rfl (by first | exact EvR.const _ | exact EvR.tmp rfl rfl) X rfl rfl (by repeat (first | exact PutA.here (Nat.le_of_ble_eq_true rfl) | apply PutA.there)) ?_; intro w X2; (try simp only [upd] at X2); replace X := X2; clear X2) | (refine c_storeN rfl _ _ _ rfl rfl rfl X rfl rfl (by repeat (first | exact PutA.here (Nat.le_of_ble_eq_true rfl) | apply PutA.there)) ?_; intro w X2; (try simp only [upd] at X2); replace X := X2; clear X2))) | (refine m_alloc rfl _ rfl X ?_; intro g w X2; (replace X := X2; clear X2)) | (refine m_box rfl _ _ rfl (by first | exact EvR.const _ | exact EvR.tmp rfl rfl) rfl X ?_; intro g w X2; (replace X := X2; clear X2))); (simp only [Act.put, List.setIfInBounds_toArray, List.set_cons_succ, List.set_cons_zero, List.drop_succ_cons, List.drop_zero, List.take_succ_cons, List.take_zero, Nat.reduceAdd]))
      | (go_at_call 23; go_loud ((with_reducible refine (hMay.out _ X.below).mono ?_); rintro e w1 ⟨rfl, hb1⟩; replace X := X.call hb1; clear hb1)))
    exact m_ret2 rfl (.tmp rfl rfl) (.tmp rfl rfl) X (.head _) rfl rfl ⟨_, _, _, rfl, .same _ _ _ _ _ _, X.below⟩
  rw [hz] at hMay
  obtain ⟨hgt, hh, ho, hb⟩ := may_zero hz
  have hg := goodT_of.1 hgt
  obtain ⟨l1, l2, l3⟩ := lens hg
  have hCon := fun w' (hb : Below w.heap.size w w') => slices_ContainsI t.rev b _ w' (hr.below hb) (by omega)
  have hPay := fun w' g (hb : Below w.heap.size w w') k0 => txn_pay t am ad ar cm cd cr h b g w' k0 hg (hm.below hb) (hr.below hb) hh
  have hDm := fun w' (hb : Below w.heap.size w w') => txn_drop t.mt b _ w' (hm.below hb) (by omega)
  have hDd := fun w' (hb : Below w.heap.size w w') => txn_drop t.dt b _ w' (hd.below hb) (by omega)
  have hBS := fun w' (hb : Below w.heap.size w w') => slices_BinarySearchI t.rev b _ w' ((rise_pw _).1 hg.rev).1 (hr.below hb) (by omega)
  have hCl := fun w' (hb : Below w.heap.size w w') => slices_CloneI t.rev _ w' (hr.below hb) (by omega)
  have hIns := fun v vb base w' h1 h2 h3 h4 => slices_InsertI t.rev (posI t.rev b) b v vb base w' h1 h2 h3 h4 (posI_le _ _) (by omega)
  have hins : t.rev.take (posI t.rev b) ++ b :: t.rev.drop (posI t.rev b) = insI t.rev b := rfl
  simp only [hins] at hIns
  obtain ⟨V, hV⟩ : ∃ V, inI t.rev b = V := ⟨_, rfl⟩
  obtain ⟨E, hE⟩ : ∃ E, payE t h b = E := ⟨_, rfl⟩
  rw [hV] at hCon
  rw [hE] at hPay
  simp only [txnL] at hPay
  obtain ⟨_, pm, pd, pr⟩ := payU_same t h b
  generalize hU : payU t h b = U at *
  generalize posI t.rev b = p at *
  replace hMay := hid hMay; replace hCon := hid hCon; replace hPay := hid hPay; replace hDm := hid hDm; replace hDd := hid hDd; replace hBS := hid hBS; replace hCl := hid hCl; replace hIns := hid hIns; replace hV := hid hV; replace hE := hid hE; replace hz := hid hz; replace hU := hid hU
  clear hm hd hr hgt ho hb hins pm pd pr
  unfold txnV at hMay ⊢
  have X := St.start [] w
  go_enter Try.func11, Try.ntmps11
  go_wp2_with (first
    | (refine at_mem rfl ?_; (first | (refine at_load rfl ?_; (first | (refine c_load1 rfl _ _ rfl rfl X (by repeat (first | exact ReadA.here rfl | apply ReadA.there)) ?_) | (refine c_loadN rfl _ _ rfl rfl X (by repeat (first | exact ReadB.here (Nat.le_of_ble_eq_true rfl) | apply ReadB.there)) ?_))) | (refine at_store rfl ?_; (first | (refine c_store1 rfl _ _ _ rfl rfl (by first | exact EvR.const _ | exact EvR.tmp rfl rfl) X rfl rfl (by repeat (first | exact PutA.here (Nat.le_of_ble_eq_true rfl) | apply PutA.there)) ?_; intro w X2; (try simp only [upd] at X2); replace X := X2; clear X2) | (refine c_storeN rfl _ _ _ rfl rfl rfl X rfl rfl (by repeat (first | exact PutA.here (Nat.le_of_ble_eq_true rfl) | apply PutA.there)) ?_; intro w X2; (try simp only [upd] at X2); replace X := X2; clear X2))) | (refine m_alloc rfl _ rfl X ?_; intro g w X2; (replace X := X2; clear X2)) | (refine m_box rfl _ _ rfl (by first | exact EvR.const _ | exact EvR.tmp rfl rfl) rfl X ?_; intro g w X2; (replace X := X2; clear X2))); (simp only [Act.put, List.setIfInBounds_toArray, List.set_cons_succ, List.set_cons_zero, List.drop_succ_cons, List.drop_zero, List.take_succ_cons, List.take_zero, Nat.reduceAdd]))
    | (go_at_call 23; go_loud ((with_reducible refine (hMay.out _ X.below).mono ?_); rintro e w1 ⟨rfl, hb1⟩; replace X := X.call hb1; clear hb1))
    | (go_at_call 37; go_loud ((with_reducible refine (hCon.out _ X.below).mono ?_); rintro e w1 ⟨rfl, rfl⟩))
    | (go_at_call 25; go_loud ((with_reducible refine (hPay.out _ _ X.below X.k0).mono ?_); rintro e w1 ⟨rfl, hk1, hm1⟩; have X2 := St.calledOn [] _ X hm1 hk1; clear hm1 hk1; replace X := X2; clear X2; simp only [List.nil_append] at X)))
  · obtain ⟨e1, e2⟩ := rvk_twice hz.out (hV.out.trans ‹V = true›)
    rw [e1, e2]
    exact m_ret2 rfl (.tmp rfl rfl) (.tmp rfl rfl) X (.head _) rfl rfl ⟨_, _, _, rfl, .same _ _ _ _ _ _, X.below⟩
  · obtain ⟨e1, e2⟩ := rvk_broke hz.out (hV.out.trans ‹V = false›) (by rw [hE.out]; simpa using ‹(E != 0) = true›)
    rw [e1, e2, hE.out]
    exact m_ret2 rfl (.tmp rfl rfl) (.tmp rfl rfl) X (.tail _ (.head _)) rfl rfl ⟨_, _, _, rfl, .same _ _ _ _ _ _, X.below⟩
  · (refine q_start 3 [9, 11] [3, 7, 9, 11] [1, 5] [0, 1, 2, 4, 5, 6, 3, 7, 8, 9, 10, 11] X (by kernel_rfl) (by kernel_rfl) (fun _ _ _ _ _ h => h) ?_; intro hQ X2 hL; replace X := X2; clear X2; simp only [List.take_succ_cons, List.take_zero] at hL; simp only [List.take_succ_cons, List.take_zero])
    (refine q_field rfl rfl (by first | exact EvR.const _ | exact EvR.tmp rfl rfl) rfl rfl hQ ?_; (simp only [Act.put, List.setIfInBounds_toArray, List.set_cons_succ, List.set_cons_zero, List.drop_succ_cons, List.drop_zero, List.take_succ_cons, List.take_zero, Nat.reduceAdd]))
    ((first | (refine d_load1 rfl rfl (by first | exact EvR.const _ | exact EvR.tmp rfl rfl) (by repeat (first | exact ReadA.here rfl | apply ReadA.there)) rfl rfl X hL hQ ?_) | (refine d_loadN rfl rfl (by first | exact EvR.const _ | exact EvR.tmp rfl rfl) (by repeat (first | exact ReadB.here (Nat.le_of_ble_eq_true rfl) | apply ReadB.there)) rfl rfl X hL hQ ?_)); (simp only [Act.put, List.setIfInBounds_toArray, List.set_cons_succ, List.set_cons_zero, List.drop_succ_cons, List.drop_zero, List.take_succ_cons, List.take_zero, Nat.reduceAdd]))
    (refine q_move rfl rfl (by first | exact EvR.const _ | exact EvR.tmp rfl rfl) rfl rfl hQ ?_; (simp only [Act.put, List.setIfInBounds_toArray, List.set_cons_succ, List.set_cons_zero, List.drop_succ_cons, List.drop_zero, List.take_succ_cons, List.take_zero, Nat.reduceAdd]))
    (refine q_field rfl rfl (by first | exact EvR.const _ | exact EvR.tmp rfl rfl) rfl rfl hQ ?_; (simp only [Act.put, List.setIfInBounds_toArray, List.set_cons_succ, List.set_cons_zero, List.drop_succ_cons, List.drop_zero, List.take_succ_cons, List.take_zero, Nat.reduceAdd]))
    ((first | (refine d_load1 rfl rfl (by first | exact EvR.const _ | exact EvR.tmp rfl rfl) (by repeat (first | exact ReadA.here rfl | apply ReadA.there)) rfl rfl X hL hQ ?_) | (refine d_loadN rfl rfl (by first | exact EvR.const _ | exact EvR.tmp rfl rfl) (by repeat (first | exact ReadB.here (Nat.le_of_ble_eq_true rfl) | apply ReadB.there)) rfl rfl X hL hQ ?_)); (simp only [Act.put, List.setIfInBounds_toArray, List.set_cons_succ, List.set_cons_zero, List.drop_succ_cons, List.drop_zero, List.take_succ_cons, List.take_zero, Nat.reduceAdd]))
    (refine q_move rfl rfl (by first | exact EvR.const _ | exact EvR.tmp rfl rfl) rfl rfl hQ ?_; (simp only [Act.put, List.setIfInBounds_toArray, List.set_cons_succ, List.set_cons_zero, List.drop_succ_cons, List.drop_zero, List.take_succ_cons, List.take_zero, Nat.reduceAdd]))
    (refine q_call 38 _ _ rfl rfl _ rfl ⟨_, _, Try.func38, by kernel_rfl, rfl⟩ rfl rfl (hDm.out _ X.below) ?_; rintro e w1 ⟨v4, rfl, ho4, hb4⟩; obtain ⟨a4, c4, rfl⟩ := ho4.form; have f4 := hid (ho4.fresh X.mv.size); replace X := X.addOwn hb4 ho4; clear hb4 ho4; (have hL2 := X.und (by first | exact hL | exact hL.up | exact hL.up3 | exact hL.up.up); replace hL := hL2; clear hL2); refine ⟨_, rfl, fun _ _ => X.keeps hL, ?_⟩; (simp only [Act.put, List.setIfInBounds_toArray, List.set_cons_succ, List.set_cons_zero, List.drop_succ_cons, List.drop_zero, List.take_succ_cons, List.take_zero, Nat.reduceAdd]))
    (refine q_call 38 _ _ rfl rfl _ rfl ⟨_, _, Try.func38, by kernel_rfl, rfl⟩ rfl rfl (hDd.out _ X.below) ?_; rintro e w1 ⟨v5, rfl, ho5, hb5⟩; obtain ⟨a5, c5, rfl⟩ := ho5.form; have f5 := hid (ho5.fresh X.mv.size); replace X := X.addOwn hb5 ho5; clear hb5 ho5; (have hL2 := X.und (by first | exact hL | exact hL.up | exact hL.up3 | exact hL.up.up); replace hL := hL2; clear hL2); refine ⟨_, rfl, fun _ _ => X.keeps hL, ?_⟩; (simp only [Act.put, List.setIfInBounds_toArray, List.set_cons_succ, List.set_cons_zero, List.drop_succ_cons, List.drop_zero, List.take_succ_cons, List.take_zero, Nat.reduceAdd]))
    (refine q_field rfl rfl (by first | exact EvR.const _ | exact EvR.tmp rfl rfl) rfl rfl hQ ?_; (simp only [Act.put, List.setIfInBounds_toArray, List.set_cons_succ, List.set_cons_zero, List.drop_succ_cons, List.drop_zero, List.take_succ_cons, List.take_zero, Nat.reduceAdd]))
    ((first | (refine d_brk1 rfl rfl (by first | exact EvR.const _ | exact EvR.tmp rfl rfl) (by first | exact EvR.const _ | exact EvR.tmp rfl rfl) X rfl rfl rfl rfl rfl (by repeat (first | exact PutA.here (Nat.le_of_ble_eq_true rfl) | apply PutA.there)) ?_) | (refine d_brkN rfl rfl (by first | exact EvR.const _ | exact EvR.tmp rfl rfl) rfl X rfl rfl rfl rfl rfl (by repeat (first | exact PutA.here (Nat.le_of_ble_eq_true rfl) | apply PutA.there)) ?_)); intro w X2; (try simp only [upd] at X2); replace X := X2; clear X2; (simp only [Act.put, List.setIfInBounds_toArray, List.set_cons_succ, List.set_cons_zero, List.drop_succ_cons, List.drop_zero, List.take_succ_cons, List.take_zero, Nat.reduceAdd]))
    (refine q_field rfl rfl (by first | exact EvR.const _ | exact EvR.tmp rfl rfl) rfl rfl hQ ?_; (simp only [Act.put, List.setIfInBounds_toArray, List.set_cons_succ, List.set_cons_zero, List.drop_succ_cons, List.drop_zero, List.take_succ_cons, List.take_zero, Nat.reduceAdd]))
    ((first | (refine d_brk1 rfl rfl (by first | exact EvR.const _ | exact EvR.tmp rfl rfl) (by first | exact EvR.const _ | exact EvR.tmp rfl rfl) X rfl rfl rfl rfl rfl (by repeat (first | exact PutA.here (Nat.le_of_ble_eq_true rfl) | apply PutA.there)) ?_) | (refine d_brkN rfl rfl (by first | exact EvR.const _ | exact EvR.tmp rfl rfl) rfl X rfl rfl rfl rfl rfl (by repeat (first | exact PutA.here (Nat.le_of_ble_eq_true rfl) | apply PutA.there)) ?_)); intro w X2; (try simp only [upd] at X2); replace X := X2; clear X2; (simp only [Act.put, List.setIfInBounds_toArray, List.set_cons_succ, List.set_cons_zero, List.drop_succ_cons, List.drop_zero, List.take_succ_cons, List.take_zero, Nat.reduceAdd]))
    refine q_nil ?_
    go_wp2_with (first
      | (refine at_mem rfl ?_; (first | (refine at_load rfl ?_; (first | (refine c_load1 rfl _ _ rfl rfl X (by repeat (first | exact ReadA.here rfl | apply ReadA.there)) ?_) | (refine c_loadN rfl _ _ rfl rfl X (by repeat (first | exact ReadB.here (Nat.le_of_ble_eq_true rfl) | apply ReadB.there)) ?_))) | (refine at_store rfl ?_; (first | (refine c_store1 rfl _ _ _ rfl rfl (by first | exact EvR.const _ | exact EvR.tmp rfl rfl) X rfl rfl (by repeat (first | exact PutA.here (Nat.le_of_ble_eq_true rfl) | apply PutA.there)) ?_; intro w X2; (try simp only [upd] at X2); replace X := X2; clear X2) | (refine c_storeN rfl _ _ _ rfl rfl rfl X rfl rfl (by repeat (first | exact PutA.here (Nat.le_of_ble_eq_true rfl) | apply PutA.there)) ?_; intro w X2; (try simp only [upd] at X2); replace X := X2; clear X2))) | (refine m_alloc rfl _ rfl X ?_; intro g w X2; (replace X := X2; clear X2)) | (refine m_box rfl _ _ rfl (by first | exact EvR.const _ | exact EvR.tmp rfl rfl) rfl X ?_; intro g w X2; (replace X := X2; clear X2))); (simp only [Act.put, List.setIfInBounds_toArray, List.set_cons_succ, List.set_cons_zero, List.drop_succ_cons, List.drop_zero, List.take_succ_cons, List.take_zero, Nat.reduceAdd]))
      | (go_at_call 39; go_loud ((with_reducible refine (hBS.out _ X.below).mono ?_); rintro e w1 ⟨rfl, rfl⟩))
      | (go_at_call 27; go_loud ((with_reducible refine (hCl.out _ X.below).mono ?_); rintro e w1 ⟨v2, rfl, ho2, hb1⟩; obtain ⟨a2, c2, rfl⟩ := ho2.form)))
    have f2 := hid (ho2.fresh X.mv.size)
    have hb3 := hid (fun w' (h3 : Below w.heap.size (w1.alloc (.cells #[.int .i64 b] 3)) w') => (bal hb1 (.cells #[.int .i64 b] 3)).trans h3)
    replace hIns := hid (hIns.out (.slice a2 t.rev.length c2) w1.heap.size w.heap.size (w1.alloc (.cells #[.int .i64 b] 3)) (ho2.alloc _) (Nat.le_trans hb1.size (by simp)) (Blk.new w1 _ _) (fun h => Nat.lt_irrefl _ (World.ownsRow.lt ho2 _ h).2))
    go_wp2_with (first
      | (refine at_mem rfl ?_; (first | (refine at_load rfl ?_; (first | (refine c_load1 rfl _ _ rfl rfl X (by repeat (first | exact ReadA.here rfl | apply ReadA.there)) ?_) | (refine c_loadN rfl _ _ rfl rfl X (by repeat (first | exact ReadB.here (Nat.le_of_ble_eq_true rfl) | apply ReadB.there)) ?_))) | (refine at_store rfl ?_; (first | (refine c_store1 rfl _ _ _ rfl rfl (by first | exact EvR.const _ | exact EvR.tmp rfl rfl) X rfl rfl (by repeat (first | exact PutA.here (Nat.le_of_ble_eq_true rfl) | apply PutA.there)) ?_; intro w X2; (try simp only [upd] at X2); replace X := X2; clear X2) | (refine c_storeN rfl _ _ _ rfl rfl rfl X rfl rfl (by repeat (first | exact PutA.here (Nat.le_of_ble_eq_true rfl) | apply PutA.there)) ?_; intro w X2; (try simp only [upd] at X2); replace X := X2; clear X2))) | (refine m_alloc rfl _ rfl X ?_; intro g w X2; (replace X := X2; clear X2)) | (refine m_box rfl _ _ rfl (by first | exact EvR.const _ | exact EvR.tmp rfl rfl) rfl X ?_; intro g w X2; (replace X := X2; clear X2))); (simp only [Act.put, List.setIfInBounds_toArray, List.set_cons_succ, List.set_cons_zero, List.drop_succ_cons, List.drop_zero, List.take_succ_cons, List.take_zero, Nat.reduceAdd]))
      | (go_at_call 40; go_loud ((with_reducible refine hIns.out.mono ?_); rintro e w2 ⟨v3, rfl, ho3, hb4⟩; obtain ⟨a3, c3, rfl⟩ := ho3.form; have f3 := hid (ho3.fresh X.mv.size); replace X := X.addOwn (hb3.out _ hb4) ho3; clear hb3 hb4 ho3)))
    have hE0 : E = 0 := by simpa using ‹(E != 0) = false›
    obtain ⟨e1, e2⟩ := rvk_ok hz.out (hV.out.trans ‹V = false›) (hE.out.trans hE0)
    rw [e1, e2, hU.out]
    exact m_ret2 rfl (.tmp rfl rfl) (.tmp rfl rfl) X (.tail _ (.head _)) rfl rfl ⟨_, _, _, rfl, ⟨.inr ⟨X.r2, f4.out⟩, .inr ⟨X.r1, f5.out⟩, .inr ⟨X.r0, f3.out⟩⟩, X.below⟩
end Go.Proofs.Ytjhmfljlclajnac
