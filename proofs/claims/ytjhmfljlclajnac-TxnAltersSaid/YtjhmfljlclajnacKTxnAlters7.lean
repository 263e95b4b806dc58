/- The walks of package slices: BinarySearch at numbers; drop. Where the fields of structs lie. The walk of Revoke. The walks of txn.Get and of in. Rows that a value owns, among the blocks that are known. No program in sight. -/
import Derived.Test.YtjhmfljlclajnacKTxnAlters6
import Derived.Test.YtjhmfljlclajnacKTxnAlters2
import Derived.Test.YtjhmfljlclajnacKTxnAlters5
import Derived.Test.YtjhmfljlclajnacKTxnAlters1
namespace Wb
open Go Go.RowKit
theorem posI_of {l : List Int} {b : Int} {i : Nat} (hi : i ≤ l.length) (h1 : ∀ k (hk : k < l.length), k < i → l[k] < b) (h2 : ∀ k (hk : k < l.length), i ≤ k → b ≤ l[k]) : posI l b = i := by
  unfold posI
  have e : l.filter (fun x => decide (x < b)) = l.take i := by
    conv => lhs; rw [← List.take_append_drop i l, List.filter_append]
    rw [List.filter_eq_self.2, List.filter_eq_nil_iff.2, List.append_nil]
    · intro c hc
      obtain ⟨k, hk, rfl⟩ := List.mem_iff_getElem.1 hc
      rw [List.getElem_drop]
      rw [List.length_drop] at hk
      have := h2 (i + k) (by omega) (by omega)
      simpa using this
    · intro c hc
      obtain ⟨k, hk, rfl⟩ := List.mem_iff_getElem.1 hc
      rw [List.getElem_take]
      rw [List.length_take] at hk
      exact decide_eq_true (h1 k (by omega) (by omega))
  rw [e, List.length_take]
  omega
theorem inI_of {l : List Int} {b : Int} {i : Nat} (hs : l.Pairwise (· < ·)) (h1 : ∀ k (hk : k < l.length), k < i → l[k] < b) (h2 : ∀ k (hk : k < l.length), i ≤ k → b ≤ l[k]) :
    inI l b = true ↔ ∃ h : i < l.length, l[i] = b := by
  rw [inI_iff]
  constructor
  · intro hb
    obtain ⟨k, hk, hb⟩ := List.mem_iff_getElem.1 hb
    have hik : i ≤ k := by
      by_cases hki : k < i
      · have := h1 k hk hki; omega
      · omega
    refine ⟨by omega, ?_⟩
    by_cases e : i = k
    · subst e; exact hb
    · have := List.pairwise_iff_getElem.1 hs i k (by omega) hk (by omega)
      have := h2 i (by omega) (Nat.le_refl _)
      omega
  · rintro ⟨h, hb⟩
    exact hb ▸ List.getElem_mem h
end Wb
namespace Go.Proofs.Ytjhmfljlclajnac
open Go.RowKit Wb
set_option linter.unusedVariables false
set_option linter.unusedSimpArgs false
set_option maxRecDepth 100000
set_option maxHeartbeats 8000000
theorem cmp_isNaN (x : Int) (w : World) : Calls Try.prog 75 #[.int .i64 x] w fun e w' => e = .returned (.bool false) ∧ w = w' := by
  go_enter Try.func75, Try.ntmps75
  go_wp2
  go_ret
  exact ⟨by simp, rfl⟩
theorem slices_isNaN (x : Int) (w : World) : Calls Try.prog 58 #[.int .i64 x] w fun e w' => e = .returned (.bool false) ∧ w = w' := by
  go_enter Try.func58, Try.ntmps58
  go_wp2
  go_ret
  exact ⟨by simp, rfl⟩
theorem cmp_Less (x y : Int) (w : World) : Calls Try.prog 57 #[.int .i64 x, .int .i64 y] w fun e w' => e = .returned (.bool (decide (x < y))) ∧ w = w' := by
  have h1 := fun x w => cmp_isNaN x w
  replace h1 := hid h1
  go_enter Try.func57, Try.ntmps57
  go_wp2_with (go_at_call 75; refine (h1.out _ _).mono ?_; rintro e w1 ⟨rfl, rfl⟩)
  all_goals go_ret
  all_goals exact ⟨by simp, rfl⟩
theorem slices_BinarySearchI (l : List Int) (b : Int) (v : Value) (w : World) (hs : l.Pairwise (· < ·)) (h : RL intC w v l) (hl : l.length ≤ 17592186044160) :
    Calls Try.prog 39 #[v, .int .i64 b] w fun e w' => e = .returned (.tuple #[.int .i64 (posI l b : Nat), .bool (inI l b)]) ∧ w = w' := by
  obtain ⟨a, cap, rfl, _⟩ := h.form
  have hr := hid (fun k (hk : k < l.length) i (hi : i < k) => List.pairwise_iff_getElem.1 hs i k (by omega) hk hi)
  have hpo := hid (fun i h0 h1 h2 => posI_of (l := l) (b := b) (i := i) h0 h1 h2)
  have hha := hid (fun i h1 h2 => inI_of (l := l) (b := b) (i := i) hs h1 h2)
  generalize posI l b = p at *
  generalize inI l b = hb at *
  have hC := hid (fun x y w => cmp_Less x y w)
  have hN := hid (fun x w => slices_isNaN x w)
  replace h := hid h
  clear hs
  go_enter Try.func39, Try.ntmps39
  go_wp2
  go_loop [7, 8, 9] (fun s7 s8 _ => ∃ lo hi : Nat, s7 = .int .i64 lo ∧ s8 = .int .i64 hi ∧ lo ≤ hi ∧ hi ≤ l.length ∧ Hid (∀ k (hk : k < l.length), k < lo → l[k] < b) ∧ Hid (∀ k (hk : k < l.length), hi ≤ k → b ≤ l[k])) (fun s7 s8 _ => (intOf s8 - intOf s7).toNat)
  case atStart => exact ⟨0, l.length, rfl, rfl, Nat.zero_le _, Nat.le_refl _, hid (fun k _ hk => absurd hk (Nat.not_lt_zero k)), hid (fun k hk h2 => by omega)⟩
  case round =>
    obtain ⟨lo, hi, rfl, rfl, hlh, hin, i1, i2⟩ := hrel
    by_cases hlt : lo < hi
    · have hm : (lo + hi) / 2 < l.length := by omega
      obtain ⟨b1, o1, rfl, c0⟩ := RL.at1 (fun x => .int .i64 x) (fun _ => rfl) h.out hm
      have j1 := hid (fun (hh : l[(lo + hi) / 2] < b) => (show ∀ k (hk : k < l.length), k < (lo + hi) / 2 + 1 → l[k] < b from fun k hk hk2 => by
        by_cases e : k = (lo + hi) / 2
        · subst e; exact hh
        · have := hr.out _ hm k (by omega); omega))
      have j2 := hid (fun (hh : b ≤ l[(lo + hi) / 2]) => (show ∀ k (hk : k < l.length), (lo + hi) / 2 ≤ k → b ≤ l[k] from fun k hk hk2 => by
        by_cases e : k = (lo + hi) / 2
        · subst e; exact hh
        · have := hr.out k hk _ (show (lo + hi) / 2 < k by omega); omega))
      generalize l[(lo + hi) / 2] = x at *
      have hCx := hC.out x b w
      by_cases hx : x < b
      · rw [decide_eq_true hx] at hCx
        replace j1 := hid (j1.out hx)
        replace hCx := hid hCx
        clear j2 hx
        go_wp2_with (go_at_call 57; go_loud ((with_reducible refine (hCx.out).mono ?_); rintro e w1 ⟨rfl, rfl⟩))
        go_round
        case measure => simp [intOf]; omega
        case rel => exact ⟨(lo + hi) / 2 + 1, hi, by rw [show ((lo : Int) + (hi : Int)) / 2 + 1 = (((lo + hi) / 2 + 1 : Nat) : Int) by omega], rfl, by omega, hin, j1, i2⟩
      · rw [decide_eq_false hx] at hCx
        replace j2 := hid (j2.out (by omega))
        replace hCx := hid hCx
        clear j1 hx
        go_wp2_with (go_at_call 57; go_loud ((with_reducible refine (hCx.out).mono ?_); rintro e w1 ⟨rfl, rfl⟩))
        go_round
        case measure => simp [intOf]; omega
        case rel => exact ⟨lo, (lo + hi) / 2, rfl, by rw [show ((lo : Int) + (hi : Int)) / 2 = (((lo + hi) / 2 : Nat) : Int) by omega], by omega, by omega, i1, j2⟩
    · obtain rfl : hi = lo := by omega
      have hp := hid (hpo.out hi hin i1.out i2.out)
      have hh := hid (hha.out hi i1.out i2.out)
      by_cases hn : hi < l.length
      · obtain ⟨b1, o1, rfl, c0⟩ := RL.at1 (fun x => .int .i64 x) (fun _ => rfl) h.out hn
        have hge := i2.out hi hn (Nat.le_refl _)
        have hh2 : hb = true ↔ l[hi] = b := ⟨fun h => (hh.out.1 h).2, fun h => hh.out.2 ⟨hn, h⟩⟩
        clear i1 i2 hh
        generalize l[hi] = x at *
        by_cases hx : x = b
        · have hv := hid (hh2.2 hx)
          have e1 : (x == b) = true := beq_iff_eq.2 hx
          clear hge hh2 hx
          go_wp2_with (go_at_call 58; go_loud ((with_reducible refine (hN.out _ _).mono ?_); rintro e w1 ⟨rfl, rfl⟩))
          go_ret2
          exact ⟨by rw [hp.out, hv.out]; rfl, rfl⟩
        · have hv := hid (show hb = false by
            cases hbv : hb with
            | false => rfl
            | true => exact absurd (hh2.1 hbv) hx)
          have e1 : (x == b) = false := beq_eq_false_iff_ne.2 hx
          clear hge hh2 hx
          go_wp2_with (go_at_call 58; go_loud ((with_reducible refine (hN.out _ _).mono ?_); rintro e w1 ⟨rfl, rfl⟩))
          go_ret2
          exact ⟨by rw [hp.out, hv.out]; rfl, rfl⟩
      · have hv := hid (show hb = false by
          cases hbv : hb with
          | false => rfl
          | true => obtain ⟨h1, _⟩ := hh.out.1 hbv; omega)
        clear hh i1 i2
        go_wp2
        go_ret2
        exact ⟨by rw [hp.out, hv.out]; rfl, rfl⟩
theorem txn_drop (l : List Cpy) (b : Int) (v : Value) (w : World) (h : RL cpyC w v l) (hl : l.length ≤ 5864062014805) :
    Calls Try.prog 38 #[v, .int .i64 b] w fun e w' => ∃ v', e = .returned v' ∧ Own cpyC w.heap.size 68 2 w' v' (dropC l b) ∧ Below w.heap.size w w' := by
  have hCl := fun w' (hb : Below w.heap.size w w') => slices_CloneC l _ w' (h.below hb) hl
  have hDel := fun v w' gb base h1 h2 h3 h4 => slices_DeleteFuncC l b v gb base w' h1 h2 h3 h4 hl
  have hoff : l.filter (fun x => !(x.block == b)) = dropC l b := rfl
  simp only [hoff] at hDel
  obtain ⟨a, cap, rfl, _⟩ := h.form
  replace hCl := hid hCl; replace hDel := hid hDel
  clear h hoff
  have X := St.start [] w
  go_enter Try.func38, Try.ntmps38
  go_wp2_with (first
    | (refine at_mem rfl ?_; (first | (refine at_load rfl ?_; (first | (refine c_load1 rfl _ _ rfl rfl X (by repeat (first | exact ReadA.here rfl | apply ReadA.there)) ?_) | (refine c_loadN rfl _ _ rfl rfl X (by repeat (first | exact ReadB.here (Nat.le_of_ble_eq_true rfl) | apply ReadB.there)) ?_))) | (refine at_store rfl ?_; (first | (refine c_store1 rfl _ _ _ rfl rfl (by first | exact EvR.const _ | exact EvR.tmp rfl rfl) X rfl rfl (by repeat (first | exact PutA.here (Nat.le_of_ble_eq_true rfl) | apply PutA.there)) ?_; intro w X2; (try simp only [upd] at X2); replace X := X2; clear X2) | (refine c_storeN rfl _ _ _ rfl rfl rfl X rfl rfl (by repeat (first | exact PutA.here (Nat.le_of_ble_eq_true rfl) | apply PutA.there)) ?_; intro w X2; (try simp only [upd] at X2); replace X := X2; clear X2))) | (refine m_alloc rfl _ rfl X ?_; intro g w X2; (replace X := X2; clear X2)) | (refine m_box rfl _ _ rfl (by first | exact EvR.const _ | exact EvR.tmp rfl rfl) rfl X ?_; intro g w X2; (replace X := X2; clear X2))); (simp only [Act.put, List.setIfInBounds_toArray, List.set_cons_succ, List.set_cons_zero, List.drop_succ_cons, List.drop_zero, List.take_succ_cons, List.take_zero, Nat.reduceAdd]))
    | (go_at_call 51; go_loud ((with_reducible refine (hCl.out _ X.below).mono ?_); rintro e w1 ⟨v2, rfl, ho2, hb1⟩; obtain ⟨a2, c2, rfl⟩ := ho2.form; replace hDel := hid (hDel.out _ _ _ _ ho2 hb1.size X.k0.lt ((X.call hb1).k0.cell 0)); replace hb1 := hid hb1; clear ho2))
    | (go_at_call 55; go_loud ((with_reducible refine hDel.out.mono ?_); rintro e w2 ⟨v3, rfl, ho3, hb3⟩; obtain ⟨a3, c3, rfl⟩ := ho3.form; have ho4 := hid (ho3.mono X.mv.size); replace X := X.call (hb1.out.trans hb3); clear hb1 hb3 ho3)))
  go_ret
  exact ⟨_, rfl, ho4.out, X.below⟩
end Go.Proofs.Ytjhmfljlclajnac

namespace Go.Proofs.Ytjhmfljlclajnac
open Go.RowKit Wb
instance : FieldT Try.prog 28 0 0 := ⟨fun _ _ _ => by kernel_rfl⟩
instance : FieldT Try.prog 28 1 1 := ⟨fun _ _ _ => by kernel_rfl⟩
instance : FieldT Try.prog 28 2 2 := ⟨fun _ _ _ => by kernel_rfl⟩
instance : FieldT Try.prog 28 3 3 := ⟨fun _ _ _ => by kernel_rfl⟩
instance : FieldT Try.prog 28 4 4 := ⟨fun _ _ _ => by kernel_rfl⟩
instance : FieldT Try.prog 25 0 0 := ⟨fun _ _ _ => by kernel_rfl⟩
instance : FieldT Try.prog 25 1 1 := ⟨fun _ _ _ => by kernel_rfl⟩
instance : FieldT Try.prog 68 0 0 := ⟨fun _ _ _ => by kernel_rfl⟩
instance : FieldT Try.prog 68 1 1 := ⟨fun _ _ _ => by kernel_rfl⟩
end Go.Proofs.Ytjhmfljlclajnac

namespace Go.Proofs.Ytjhmfljlclajnac
open Go.RowKit Wb
set_option linter.unusedVariables false
set_option linter.unusedSimpArgs false
set_option maxRecDepth 100000
set_option maxHeartbeats 8000000
theorem txn_Revoke (t : Txn) (h b : Int) (vm vd vr : Value) (w : World) (ht : RTxn w (txnV t vm vd vr) t) :
    Calls Try.prog 11 #[txnV t vm vd vr, .int .i64 h, .int .i64 b] w fun e w' => ∃ vm' vd' vr', e = .returned (.tuple #[txnV (rvkT t h b) vm' vd' vr', .int .i64 (rvkE t h b)]) ∧ NewT w.heap.size w' vm vd vr vm' vd' vr' t (rvkT t h b) ∧ Below w.heap.size w w' := by
  have hMay := fun w' (hb : Below w.heap.size w w') => txn_may t h b _ w' (ht.below hb)
  obtain ⟨vm', vd', vr', hvv, hm, hd, hr, n1, n2, n3⟩ := ht
  simp only [txnV, Value.agg.injEq, Array.mk.injEq, List.cons.injEq, and_true, true_and] at hvv
  obtain ⟨rfl, rfl, rfl⟩ := hvv
  obtain ⟨am, cm, rfl, _⟩ := hm.form
  obtain ⟨ad, cd, rfl, _⟩ := hd.form
  obtain ⟨ar, cr, rfl, _⟩ := hr.form
  by_cases hz : mayE t h b = 0
  rotate_left
  · obtain ⟨e1, e2⟩ := rvk_may hz
    rw [e1, e2]
    clear e1 e2
    generalize mayE t h b = E at *
    replace hMay := hid hMay
    clear hm hd hr
    unfold txnV at hMay ⊢
    have X := St.start [] w
    go_enter Try.func11, Try.ntmps11
    go_wp2_with (first
      | (refine at_mem rfl ?_; (first | (refine at_load rfl ?_; (first | (refine c_load1 rfl _ _ rfl rfl X (by repeat (first | exact ReadA.here rfl | apply ReadA.there)) ?_) | (refine c_loadN rfl _ _ rfl rfl X (by repeat (first | exact ReadB.here (Nat.le_of_ble_eq_true rfl) | apply ReadB.there)) ?_))) | (refine at_store rfl ?_; (first | (refine c_store1 rfl _ _ _ rfl rfl (by first | exact EvR.const _ | exact EvR.tmp rfl rfl) X rfl rfl (by repeat (first | exact PutA.here (Nat.le_of_ble_eq_true rfl) | apply PutA.there)) ?_; intro w X2; (try simp only [upd] at X2); replace X := X2; clear X2) | (refine c_storeN rfl _ _ _ rfl rfl rfl X rfl rfl (by repeat (first | exact PutA.here (Nat.le_of_ble_eq_true rfl) | apply PutA.there)) ?_; intro w X2; (try simp only [upd] at X2); replace X := X2; clear X2))) | (refine m_alloc rfl _ rfl X ?_; intro g w X2; (replace X := X2; clear X2)) | (refine m_box rfl _ _ rfl (by first | exact EvR.const _ | exact EvR.tmp rfl rfl) rfl X ?_; intro g w X2; (replace X := X2; clear X2))); (simp only [Act.put, List.setIfInBounds_toArray, List.set_cons_succ, List.set_cons_zero, List.drop_succ_cons, List.drop_zero, List.take_succ_cons, List.take_zero, Nat.reduceAdd]))
      | (go_at_call 23; go_loud ((with_reducible refine (hMay.out _ X.below).mono ?_); rintro e w1 ⟨rfl, hb1⟩; replace X := X.call hb1; clear hb1)))
    exact m_ret2 rfl (.tmp rfl rfl) (.tmp rfl rfl) X (.head _) rfl rfl ⟨_, _, _, rfl, .same _ _ _ _ _ _, X.below⟩
  rw [hz] at hMay
  obtain ⟨hgt, hh, ho, hb⟩ := may_zero hz
  have hg := goodT_of.1 hgt
  obtain ⟨l1, l2, l3⟩ := lens hg
  have hCon := fun w' (hb : Below w.heap.size w w') => slices_ContainsI t.rev b _ w' (hr.below hb) (by omega)
  have hPay := fun w' g (hb : Below w.heap.size w w') k0 => txn_pay t am ad ar cm cd cr h b g w' k0 hg (hm.below hb) (hr.below hb) hh
  have hDm := fun w' (hb : Below w.heap.size w w') => txn_drop t.mt b _ w' (hm.below hb) (by omega)
  have hDd := fun w' (hb : Below w.heap.size w w') => txn_drop t.dt b _ w' (hd.below hb) (by omega)
  have hBS := fun w' (hb : Below w.heap.size w w') => slices_BinarySearchI t.rev b _ w' ((rise_pw _).1 hg.rev).1 (hr.below hb) (by omega)
  have hCl := fun w' (hb : Below w.heap.size w w') => slices_CloneI t.rev _ w' (hr.below hb) (by omega)
  have hIns := fun v vb base w' h1 h2 h3 h4 => slices_InsertI t.rev (posI t.rev b) b v vb base w' h1 h2 h3 h4 (posI_le _ _) (by omega)
  have hins : t.rev.take (posI t.rev b) ++ b :: t.rev.drop (posI t.rev b) = insI t.rev b := rfl
  simp only [hins] at hIns
  obtain ⟨V, hV⟩ : ∃ V, inI t.rev b = V := ⟨_, rfl⟩
  obtain ⟨E, hE⟩ : ∃ E, payE t h b = E := ⟨_, rfl⟩
  rw [hV] at hCon
  rw [hE] at hPay
  simp only [txnL] at hPay
  obtain ⟨_, pm, pd, pr⟩ := payU_same t h b
  generalize hU : payU t h b = U at *
  generalize posI t.rev b = p at *
  replace hMay := hid hMay; replace hCon := hid hCon; replace hPay := hid hPay; replace hDm := hid hDm; replace hDd := hid hDd; replace hBS := hid hBS; replace hCl := hid hCl; replace hIns := hid hIns; replace hV := hid hV; replace hE := hid hE; replace hz := hid hz; replace hU := hid hU
  clear hm hd hr hgt ho hb hins pm pd pr
  unfold txnV at hMay ⊢
  have X := St.start [] w
  go_enter Try.func11, Try.ntmps11
  go_wp2_with (first
    | (refine at_mem rfl ?_; (first | (refine at_load rfl ?_; (first | (refine c_load1 rfl _ _ rfl rfl X (by repeat (first | exact ReadA.here rfl | apply ReadA.there)) ?_) | (refine c_loadN rfl _ _ rfl rfl X (by repeat (first | exact ReadB.here (Nat.le_of_ble_eq_true rfl) | apply ReadB.there)) ?_))) | (refine at_store rfl ?_; (first | (refine c_store1 rfl _ _ _ rfl rfl (by first | exact EvR.const _ | exact EvR.tmp rfl rfl) X rfl rfl (by repeat (first | exact PutA.here (Nat.le_of_ble_eq_true rfl) | apply PutA.there)) ?_; intro w X2; (try simp only [upd] at X2); replace X := X2; clear X2) | (refine c_storeN rfl _ _ _ rfl rfl rfl X rfl rfl (by repeat (first | exact PutA.here (Nat.le_of_ble_eq_true rfl) | apply PutA.there)) ?_; intro w X2; (try simp only [upd] at X2); replace X := X2; clear X2))) | (refine m_alloc rfl _ rfl X ?_; intro g w X2; (replace X := X2; clear X2)) | (refine m_box rfl _ _ rfl (by first | exact EvR.const _ | exact EvR.tmp rfl rfl) rfl X ?_; intro g w X2; (replace X := X2; clear X2))); (simp only [Act.put, List.setIfInBounds_toArray, List.set_cons_succ, List.set_cons_zero, List.drop_succ_cons, List.drop_zero, List.take_succ_cons, List.take_zero, Nat.reduceAdd]))
    | (go_at_call 23; go_loud ((with_reducible refine (hMay.out _ X.below).mono ?_); rintro e w1 ⟨rfl, hb1⟩; replace X := X.call hb1; clear hb1))
    | (go_at_call 37; go_loud ((with_reducible refine (hCon.out _ X.below).mono ?_); rintro e w1 ⟨rfl, rfl⟩))
    | (go_at_call 25; go_loud ((with_reducible refine (hPay.out _ _ X.below X.k0).mono ?_); rintro e w1 ⟨rfl, hk1, hm1⟩; have X2 := St.calledOn [] _ X hm1 hk1; clear hm1 hk1; replace X := X2; clear X2; simp only [List.nil_append] at X)))
  · obtain ⟨e1, e2⟩ := rvk_twice hz.out (hV.out.trans ‹V = true›)
    rw [e1, e2]
    exact m_ret2 rfl (.tmp rfl rfl) (.tmp rfl rfl) X (.head _) rfl rfl ⟨_, _, _, rfl, .same _ _ _ _ _ _, X.below⟩
  · obtain ⟨e1, e2⟩ := rvk_broke hz.out (hV.out.trans ‹V = false›) (by rw [hE.out]; simpa using ‹(E != 0) = true›)
    rw [e1, e2, hE.out]
    exact m_ret2 rfl (.tmp rfl rfl) (.tmp rfl rfl) X (.tail _ (.head _)) rfl rfl ⟨_, _, _, rfl, .same _ _ _ _ _ _, X.below⟩
  · (refine q_start 3 [9, 11] [3, 7, 9, 11] [1, 5] [0, 1, 2, 4, 5, 6, 3, 7, 8, 9, 10, 11] X (by kernel_rfl) (by kernel_rfl) (fun _ _ _ _ _ h => h) ?_; intro hQ X2 hL; replace X := X2; clear X2; simp only [List.take_succ_cons, List.take_zero] at hL; simp only [List.take_succ_cons, List.take_zero])
    (refine q_field rfl rfl (by first | exact EvR.const _ | exact EvR.tmp rfl rfl) rfl rfl hQ ?_; (simp only [Act.put, List.setIfInBounds_toArray, List.set_cons_succ, List.set_cons_zero, List.drop_succ_cons, List.drop_zero, List.take_succ_cons, List.take_zero, Nat.reduceAdd]))
    ((first | (refine d_load1 rfl rfl (by first | exact EvR.const _ | exact EvR.tmp rfl rfl) (by repeat (first | exact ReadA.here rfl | apply ReadA.there)) rfl rfl X hL hQ ?_) | (refine d_loadN rfl rfl (by first | exact EvR.const _ | exact EvR.tmp rfl rfl) (by repeat (first | exact ReadB.here (Nat.le_of_ble_eq_true rfl) | apply ReadB.there)) rfl rfl X hL hQ ?_)); (simp only [Act.put, List.setIfInBounds_toArray, List.set_cons_succ, List.set_cons_zero, List.drop_succ_cons, List.drop_zero, List.take_succ_cons, List.take_zero, Nat.reduceAdd]))
    (refine q_move rfl rfl (by first | exact EvR.const _ | exact EvR.tmp rfl rfl) rfl rfl hQ ?_; (simp only [Act.put, List.setIfInBounds_toArray, List.set_cons_succ, List.set_cons_zero, List.drop_succ_cons, List.drop_zero, List.take_succ_cons, List.take_zero, Nat.reduceAdd]))
    (refine q_field rfl rfl (by first | exact EvR.const _ | exact EvR.tmp rfl rfl) rfl rfl hQ ?_; (simp only [Act.put, List.setIfInBounds_toArray, List.set_cons_succ, List.set_cons_zero, List.drop_succ_cons, List.drop_zero, List.take_succ_cons, List.take_zero, Nat.reduceAdd]))
    ((first | (refine d_load1 rfl rfl (by first | exact EvR.const _ | exact EvR.tmp rfl rfl) (by repeat (first | exact ReadA.here rfl | apply ReadA.there)) rfl rfl X hL hQ ?_) | (refine d_loadN rfl rfl (by first | exact EvR.const _ | exact EvR.tmp rfl rfl) (by repeat (first | exact ReadB.here (Nat.le_of_ble_eq_true rfl) | apply ReadB.there)) rfl rfl X hL hQ ?_)); (simp only [Act.put, List.setIfInBounds_toArray, List.set_cons_succ, List.set_cons_zero, List.drop_succ_cons, List.drop_zero, List.take_succ_cons, List.take_zero, Nat.reduceAdd]))
    (refine q_move rfl rfl (by first | exact EvR.const _ | exact EvR.tmp rfl rfl) rfl rfl hQ ?_; (simp only [Act.put, List.setIfInBounds_toArray, List.set_cons_succ, List.set_cons_zero, List.drop_succ_cons, List.drop_zero, List.take_succ_cons, List.take_zero, Nat.reduceAdd]))
    (refine q_call 38 _ _ rfl rfl _ rfl ⟨_, _, Try.func38, by kernel_rfl, rfl⟩ rfl rfl (hDm.out _ X.below) ?_; rintro e w1 ⟨v4, rfl, ho4, hb4⟩; obtain ⟨a4, c4, rfl⟩ := ho4.form; have f4 := hid (ho4.fresh X.mv.size); replace X := X.addOwn hb4 ho4; clear hb4 ho4; (have hL2 := X.und (by first | exact hL | exact hL.up | exact hL.up3 | exact hL.up.up); replace hL := hL2; clear hL2); refine ⟨_, rfl, fun _ _ => X.keeps hL, ?_⟩; (simp only [Act.put, List.setIfInBounds_toArray, List.set_cons_succ, List.set_cons_zero, List.drop_succ_cons, List.drop_zero, List.take_succ_cons, List.take_zero, Nat.reduceAdd]))
    (refine q_call 38 _ _ rfl rfl _ rfl ⟨_, _, Try.func38, by kernel_rfl, rfl⟩ rfl rfl (hDd.out _ X.below) ?_; rintro e w1 ⟨v5, rfl, ho5, hb5⟩; obtain ⟨a5, c5, rfl⟩ := ho5.form; have f5 := hid (ho5.fresh X.mv.size); replace X := X.addOwn hb5 ho5; clear hb5 ho5; (have hL2 := X.und (by first | exact hL | exact hL.up | exact hL.up3 | exact hL.up.up); replace hL := hL2; clear hL2); refine ⟨_, rfl, fun _ _ => X.keeps hL, ?_⟩; (simp only [Act.put, List.setIfInBounds_toArray, List.set_cons_succ, List.set_cons_zero, List.drop_succ_cons, List.drop_zero, List.take_succ_cons, List.take_zero, Nat.reduceAdd]))
    (refine q_field rfl rfl (by first | exact EvR.const _ | exact EvR.tmp rfl rfl) rfl rfl hQ ?_; (simp only [Act.put, List.setIfInBounds_toArray, List.set_cons_succ, List.set_cons_zero, List.drop_succ_cons, List.drop_zero, List.take_succ_cons, List.take_zero, Nat.reduceAdd]))
    ((first | (refine d_brk1 rfl rfl (by first | exact EvR.const _ | exact EvR.tmp rfl rfl) (by first | exact EvR.const _ | exact EvR.tmp rfl rfl) X rfl rfl rfl rfl rfl (by repeat (first | exact PutA.here (Nat.le_of_ble_eq_true rfl) | apply PutA.there)) ?_) | (refine d_brkN rfl rfl (by first | exact EvR.const _ | exact EvR.tmp rfl rfl) rfl X rfl rfl rfl rfl rfl (by repeat (first | exact PutA.here (Nat.le_of_ble_eq_true rfl) | apply PutA.there)) ?_)); intro w X2; (try simp only [upd] at X2); replace X := X2; clear X2; (simp only [Act.put, List.setIfInBounds_toArray, List.set_cons_succ, List.set_cons_zero, List.drop_succ_cons, List.drop_zero, List.take_succ_cons, List.take_zero, Nat.reduceAdd]))
    (refine q_field rfl rfl (by first | exact EvR.const _ | exact EvR.tmp rfl rfl) rfl rfl hQ ?_; (simp only [Act.put, List.setIfInBounds_toArray, List.set_cons_succ, List.set_cons_zero, List.drop_succ_cons, List.drop_zero, List.take_succ_cons, List.take_zero, Nat.reduceAdd]))
    ((first | (refine d_brk1 rfl rfl (by first | exact EvR.const _ | exact EvR.tmp rfl rfl) (by first | exact EvR.const _ | exact EvR.tmp rfl rfl) X rfl rfl rfl rfl rfl (by repeat (first | exact PutA.here (Nat.le_of_ble_eq_true rfl) | apply PutA.there)) ?_) | (refine d_brkN rfl rfl (by first | exact EvR.const _ | exact EvR.tmp rfl rfl) rfl X rfl rfl rfl rfl rfl (by repeat (first | exact PutA.here (Nat.le_of_ble_eq_true rfl) | apply PutA.there)) ?_)); intro w X2; (try simp only [upd] at X2); replace X := X2; clear X2; (simp only [Act.put, List.setIfInBounds_toArray, List.set_cons_succ, List.set_cons_zero, List.drop_succ_cons, List.drop_zero, List.take_succ_cons, List.take_zero, Nat.reduceAdd]))
    refine q_nil ?_
    go_wp2_with (first
      | (refine at_mem rfl ?_; (first | (refine at_load rfl ?_; (first | (refine c_load1 rfl _ _ rfl rfl X (by repeat (first | exact ReadA.here rfl | apply ReadA.there)) ?_) | (refine c_loadN rfl _ _ rfl rfl X (by repeat (first | exact ReadB.here (Nat.le_of_ble_eq_true rfl) | apply ReadB.there)) ?_))) | (refine at_store rfl ?_; (first | (refine c_store1 rfl _ _ _ rfl rfl (by first | exact EvR.const _ | exact EvR.tmp rfl rfl) X rfl rfl (by repeat (first | exact PutA.here (Nat.le_of_ble_eq_true rfl) | apply PutA.there)) ?_; intro w X2; (try simp only [upd] at X2); replace X := X2; clear X2) | (refine c_storeN rfl _ _ _ rfl rfl rfl X rfl rfl (by repeat (first | exact PutA.here (Nat.le_of_ble_eq_true rfl) | apply PutA.there)) ?_; intro w X2; (try simp only [upd] at X2); replace X := X2; clear X2))) | (refine m_alloc rfl _ rfl X ?_; intro g w X2; (replace X := X2; clear X2)) | (refine m_box rfl _ _ rfl (by first | exact EvR.const _ | exact EvR.tmp rfl rfl) rfl X ?_; intro g w X2; (replace X := X2; clear X2))); (simp only [Act.put, List.setIfInBounds_toArray, List.set_cons_succ, List.set_cons_zero, List.drop_succ_cons, List.drop_zero, List.take_succ_cons, List.take_zero, Nat.reduceAdd]))
      | (go_at_call 39; go_loud ((with_reducible refine (hBS.out _ X.below).mono ?_); rintro e w1 ⟨rfl, rfl⟩))
      | (go_at_call 27; go_loud ((with_reducible refine (hCl.out _ X.below).mono ?_); rintro e w1 ⟨v2, rfl, ho2, hb1⟩; obtain ⟨a2, c2, rfl⟩ := ho2.form)))
    have f2 := hid (ho2.fresh X.mv.size)
    have hb3 := hid (fun w' (h3 : Below w.heap.size (w1.alloc (.cells #[.int .i64 b] 3)) w') => (bal hb1 (.cells #[.int .i64 b] 3)).trans h3)
    replace hIns := hid (hIns.out (.slice a2 t.rev.length c2) w1.heap.size w.heap.size (w1.alloc (.cells #[.int .i64 b] 3)) (ho2.alloc _) (Nat.le_trans hb1.size (by simp)) (Blk.new w1 _ _) (fun h => Nat.lt_irrefl _ (World.ownsRow.lt ho2 _ h).2))
    go_wp2_with (first
      | (refine at_mem rfl ?_; (first | (refine at_load rfl ?_; (first | (refine c_load1 rfl _ _ rfl rfl X (by repeat (first | exact ReadA.here rfl | apply ReadA.there)) ?_) | (refine c_loadN rfl _ _ rfl rfl X (by repeat (first | exact ReadB.here (Nat.le_of_ble_eq_true rfl) | apply ReadB.there)) ?_))) | (refine at_store rfl ?_; (first | (refine c_store1 rfl _ _ _ rfl rfl (by first | exact EvR.const _ | exact EvR.tmp rfl rfl) X rfl rfl (by repeat (first | exact PutA.here (Nat.le_of_ble_eq_true rfl) | apply PutA.there)) ?_; intro w X2; (try simp only [upd] at X2); replace X := X2; clear X2) | (refine c_storeN rfl _ _ _ rfl rfl rfl X rfl rfl (by repeat (first | exact PutA.here (Nat.le_of_ble_eq_true rfl) | apply PutA.there)) ?_; intro w X2; (try simp only [upd] at X2); replace X := X2; clear X2))) | (refine m_alloc rfl _ rfl X ?_; intro g w X2; (replace X := X2; clear X2)) | (refine m_box rfl _ _ rfl (by first | exact EvR.const _ | exact EvR.tmp rfl rfl) rfl X ?_; intro g w X2; (replace X := X2; clear X2))); (simp only [Act.put, List.setIfInBounds_toArray, List.set_cons_succ, List.set_cons_zero, List.drop_succ_cons, List.drop_zero, List.take_succ_cons, List.take_zero, Nat.reduceAdd]))
      | (go_at_call 40; go_loud ((with_reducible refine hIns.out.mono ?_); rintro e w2 ⟨v3, rfl, ho3, hb4⟩; obtain ⟨a3, c3, rfl⟩ := ho3.form; have f3 := hid (ho3.fresh X.mv.size); replace X := X.addOwn (hb3.out _ hb4) ho3; clear hb3 hb4 ho3)))
    have hE0 : E = 0 := by simpa using ‹(E != 0) = false›
    obtain ⟨e1, e2⟩ := rvk_ok hz.out (hV.out.trans ‹V = false›) (hE.out.trans hE0)
    rw [e1, e2, hU.out]
    exact m_ret2 rfl (.tmp rfl rfl) (.tmp rfl rfl) X (.tail _ (.head _)) rfl rfl ⟨_, _, _, rfl, ⟨.inr ⟨X.r2, f4.out⟩, .inr ⟨X.r1, f5.out⟩, .inr ⟨X.r0, f3.out⟩⟩, X.below⟩
end Go.Proofs.Ytjhmfljlclajnac

namespace Go.Proofs.Ytjhmfljlclajnac
open Go.RowKit Wb
set_option linter.unusedVariables false
set_option linter.unusedSimpArgs false
set_option maxRecDepth 100000
set_option maxHeartbeats 8000000
theorem txn_Get (l : List Cpy) (b : Int) (v : Value) (w : World) (h : RL cpyC w v l) (hl : l.length ≤ 5864062014805) :
    Calls Try.prog 12 #[v, .int .i64 b] w fun e w' => e = .returned (.tuple #[.string ((getC l b).getD ⟨#[]⟩), .bool (getC l b).isSome]) ∧ Below w.heap.size w w' := by
  obtain ⟨a, cap, rfl, _⟩ := h.form
  have hst := fun k (hk : k < l.length) => hasB_step (l := l) (b := b) hk
  have hft := fun k (hk : ¬ k < l.length) => hasB_full (l := l) (b := b) hk
  have hht := fun k (hk : k < l.length) (hn : hasB (l.take k) b = false) (hb : l[k].block = b) => getC_step hk hn hb
  have hno' := fun (hn : hasB l b = false) => getC_none hn
  generalize getC l b = g at *
  replace h := hid h; replace hst := hid hst; replace hft := hid hft; replace hht := hid hht; replace hno' := hid hno'
  go_enter Try.func12, Try.ntmps12
  go_wp2
  go_loopw [7, 10] (fun _ i wr => ∃ k : Nat, k ≤ l.length ∧ i = .int .i64 k ∧ Hid (hasB (l.take k) b = false) ∧ Below w.heap.size w wr) (fun _ i _ => l.length - (intOf i).toNat)
  case atStart => exact ⟨0, Nat.zero_le _, rfl, hid (by simp [hasB]), b0 w⟩
  case round =>
    obtain ⟨k, hk, rfl, hno, nx⟩ := hrel
    by_cases hlt : k < l.length
    · obtain ⟨b1, o1, rfl, c0, c1⟩ := RL.at2 (fun x => .int .i64 x.block) (fun x => .string x.text) (fun _ => rfl) (h.out.below nx) hlt
      by_cases hb : l[k].block = b
      · have hv := hht.out k hlt hno.out hb
        have e1 : (l[k].block == b) = true := beq_iff_eq.2 hb
        clear hb hno'
        generalize l[k] = x at *
        subst hv
        go_wp2
        go_ret2
        exact ⟨by simp, bal nx _⟩
      · have hs := hst.out k hlt
        have e1 : (l[k].block == b) = false := beq_eq_false_iff_ne.2 hb
        rw [e1, hno.out] at hs
        replace hs := hid hs
        clear hb
        generalize l[k] = x at *
        go_wp2
        go_roundw
        case rel => exact ⟨k + 1, by omega, by go_num, hs, bal nx _⟩
        case measure => simp [intOf]; omega
    · have hv := hno.out
      rw [hft.out k hlt] at hv
      have hg := hno'.out hv
      subst hg
      clear hv hno'
      go_wp2
      go_ret2
      exact ⟨rfl, nx⟩

theorem ref_in (l : List Cpy) (b : Int) (v : Value) (w : World) (h : RL cpyC w v l) (hl : l.length ≤ 5864062014805) :
    Calls Try.prog 32 #[v, .int .i64 b] w fun e w' => e = .returned (.bool (hasB l b)) ∧ Below w.heap.size w w' := by
  obtain ⟨a, cap, rfl, _⟩ := h.form
  have hst := fun k (hk : k < l.length) => hasB_step (l := l) (b := b) hk
  have hft := fun k (hk : ¬ k < l.length) => hasB_full (l := l) (b := b) hk
  have hht := fun k (hk : k < l.length) (hb : l[k].block = b) => (List.any_eq_true.2 ⟨l[k], List.getElem_mem hk, by simp [hb]⟩ : hasB l b = true)
  replace h := hid h; replace hst := hid hst; replace hft := hid hft; replace hht := hid hht
  go_enter Try.func32, Try.ntmps32
  go_wp2
  go_loopw [9] (fun i wr => ∃ k : Nat, k ≤ l.length ∧ i = .int .i64 k ∧ Hid (hasB (l.take k) b = false) ∧ Below w.heap.size w wr) (fun i _ => l.length - (intOf i).toNat)
  case atStart => exact ⟨0, Nat.zero_le _, rfl, hid (by simp [hasB]), b0 w⟩
  case round =>
    obtain ⟨k, hk, rfl, hno, nx⟩ := hrel
    by_cases hlt : k < l.length
    · obtain ⟨b1, o1, rfl, c0, c1⟩ := RL.at2 (fun x => .int .i64 x.block) (fun x => .string x.text) (fun _ => rfl) (h.out.below nx) hlt
      by_cases hb : l[k].block = b
      · have hv := hid (hht.out k hlt hb)
        have e1 : (l[k].block == b) = true := beq_iff_eq.2 hb
        clear hb
        generalize l[k] = x at *
        go_wp2
        go_ret
        exact ⟨ret_b hv.out.symm, bal nx _⟩
      · have hs := hst.out k hlt
        have e1 : (l[k].block == b) = false := beq_eq_false_iff_ne.2 hb
        rw [e1, hno.out] at hs
        replace hs := hid hs
        clear hb
        generalize l[k] = x at *
        go_wp2
        go_roundw
        case rel => exact ⟨k + 1, by omega, by go_num, hs, bal nx _⟩
        case measure => simp [intOf]; omega
    · have hv := hno.out
      rw [hft.out k hlt] at hv
      replace hv := hid hv
      go_wp2
      go_ret
      exact ⟨ret_b hv.out.symm, nx⟩

end Go.Proofs.Ytjhmfljlclajnac

namespace Wb
open Go Go.RowKit
set_option linter.unusedVariables false
set_option linter.unusedSimpArgs false

/-- v is the list l, in a row of its own: M is that row, with what is behind the list; or no row, where nothing is there yet. -/
def OwnM {α : Type} (f : α → List Value) (e : TypeId) (c : Nat) (v : Value) (l : List α) (M : List Ent) : Prop :=
  (v = .slice none 0 0 ∧ l = [] ∧ M = []) ∨ ∃ g cap rest, v = .slice (some ⟨g, 0, none⟩) l.length cap ∧ l.length ≤ cap ∧ cap ≤ maxLen ∧ (l.flatMap f ++ rest).length = cap * c ∧ M = [⟨g, l.flatMap f ++ rest, e⟩]
section
variable {α : Type} {f : α → List Value} {e : TypeId} {c : Nat} {v : Value} {l : List α} {M : List Ent} {S : List Nat} {w0 w w' : World} {L T : List Ent} {R : List Rd}
theorem OwnM.nil (f : α → List Value) (e : TypeId) (c : Nat) : OwnM f e c (.slice none 0 0) [] [] := .inl ⟨rfl, rfl, rfl⟩
theorem OwnM.form (h : OwnM f e c v l M) : ∃ a cap, v = .slice a l.length cap := by
  rcases h with ⟨rfl, rfl, _⟩ | ⟨g, cap, rest, rfl, _⟩
  · exact ⟨none, 0, rfl⟩
  · exact ⟨_, _, rfl⟩
/-- It is read. -/
theorem OwnM.reads (h : OwnM f e c v l M) (hb : ∀ x ∈ M, Blk w x.g x.cs.toArray x.t) : RL f w v l := by
  rcases h with ⟨rfl, rfl, rfl⟩ | ⟨g, cap, rest, rfl, h1, h2, h3, rfl⟩
  · exact ⟨none, 0, rfl, Nat.le_refl _, by simp [maxLen], .inl rfl⟩
  · have hk := hb _ (List.mem_singleton.2 rfl)
    refine ⟨_, cap, rfl, h1, h2, .inr ⟨g, 0, rfl, fun j u hj => ?_⟩⟩
    rw [hk.cell]
    have hlt : j < (l.flatMap f).length := (List.getElem?_eq_some_iff.1 hj).1
    rw [Nat.zero_add]
    simp only [List.getElem?_toArray]
    rw [List.getElem?_append_left hlt]; exact hj
theorem St.ownRd (X : St S w0 w (L ++ (M ++ T)) R) (h : OwnM f e c v l M) : RL f w v l := h.reads fun x hx => X.blk x (by simp [hx])
/-- Some of the blocks are forgotten. -/
theorem St.sub {L2 : List Ent} (X : St S w0 w L R) (hs : L2.Sublist L) : St S w0 w L2 R :=
  ⟨X.mv, (hs.map _).nodup X.nd, fun x hx => X.blk x (hs.subset hx), fun x hx => X.own x (hs.subset hx), fun r hr => ⟨(X.rd r hr).1, (X.rd r hr).2.imp id fun h b hb x hx => h b hb x (hs.subset hx)⟩⟩
/-- The row is only read from now on. -/
theorem St.ownEnd (X : St S w0 w (L ++ (M ++ T)) R) (h : OwnM f e c v l M) : St S w0 w (L ++ T) (Rd.of f v l :: R) := by
  have X2 : St S w0 w (L ++ T) R := X.sub (List.Sublist.append_left (List.sublist_append_right _ _) _)
  refine X2.addR (X.ownRd h) ?_
  rcases h with ⟨rfl, rfl, rfl⟩ | ⟨g, cap, rest, rfl, h1, h2, h3, rfl⟩
  · exact .inl rfl
  · refine .inr fun b hb x hx heq => ?_
    cases hb
    have hnd := X.nd
    simp only [List.map_append, List.map_cons, List.map_nil, List.nodup_append, List.nodup_cons, List.mem_append, List.mem_map, List.mem_singleton] at hnd
    obtain ⟨_, ⟨_, _, h5⟩, h6⟩ := hnd
    have heq2 : x.g = g := heq
    rcases List.mem_append.1 hx with hx | hx
    · exact h6 x.g ⟨x, hx, rfl⟩ g (.inl (by simp)) heq2
    · exact h5 g (by simp) x.g ⟨x, hx, rfl⟩ heq2.symm
/-- A block's cells behind its being written as a row. -/
theorem St.push_blk {w1 : World} {g g' : Nat} {cs cs' : List Value} (X : St S w0 w (L ++ ([⟨g, cs, e⟩] ++ T)) R) (hg : w.grownBy w1 (some g)) (hb : Blk w1 g' cs'.toArray e) (hg' : g' = g ∨ w.heap.size ≤ g') :
    St S w0 w1 (L ++ ([⟨g', cs', e⟩] ++ T)) R := by
  have hnd := X.nd
  simp only [List.map_append, List.map_cons, List.map_nil, List.nodup_append, List.nodup_cons, List.mem_append, List.mem_map, List.mem_singleton] at hnd
  obtain ⟨nL, ⟨_, nT, h5⟩, h6⟩ := hnd
  have ho := X.own ⟨g, cs, e⟩ (by simp)
  have hlt : ∀ x ∈ L ++ T, x.g < w.heap.size := fun x hx => (X.blk x (by rcases List.mem_append.1 hx with h | h <;> simp [h])).lt
  have hneL : ∀ x ∈ L, x.g ≠ g := fun x hx => h6 x.g ⟨x, hx, rfl⟩ g (.inl (by simp))
  have hneT : ∀ x ∈ T, x.g ≠ g := fun x hx heq => h5 g (by simp) x.g ⟨x, hx, rfl⟩ heq.symm
  have hne' : ∀ x ∈ L ++ T, x.g ≠ g' := fun x hx heq => by
    rcases hg' with rfl | hg'
    · rcases List.mem_append.1 hx with h | h
      · exact hneL x h heq
      · exact hneT x h heq
    · have := hlt x hx; omega
  have hm := Mv.ofGrown hg
  have hsz := X.mv.size
  have hR : ∀ r ∈ R, r.cs = [] ∨ ∀ b, vblk r.v = some b → b ≠ g := fun r hr => (X.rd r hr).2.imp id fun h b hb => (h b hb ⟨g, cs, e⟩ (by simp)).symm
  refine ⟨X.mv.then hm (fun k hk => ?_), ?_, fun x hx => ?_, fun x hx => ?_, fun r hr => ⟨(X.rd r hr).1.mv hm ((hR r hr).imp id fun h b hb => by simpa using h b hb), ?_⟩⟩
  · obtain rfl : k = g := by simpa using hk
    exact ho
  · simp only [List.map_append, List.map_cons, List.map_nil, List.nodup_append, List.nodup_cons, List.mem_append, List.mem_map, List.mem_singleton]
    refine ⟨nL, ⟨⟨by simp, List.nodup_nil⟩, nT, ?_⟩, ?_⟩
    · rintro a rfl b ⟨x, hx, rfl⟩ heq
      exact hne' x (by simp [hx]) heq.symm
    · rintro a ⟨x, hx, rfl⟩ b (rfl | ⟨y, hy, rfl⟩) heq
      · exact hne' x (by simp [hx]) heq
      · exact h6 x.g ⟨x, hx, rfl⟩ y.g (.inr ⟨y, hy, rfl⟩) heq
  · rcases List.mem_append.1 hx with hx | hx
    · exact (X.blk x (by simp [hx])).mv hm (by simpa using hneL x hx)
    · rcases List.mem_append.1 hx with hx | hx
      · obtain rfl := List.mem_singleton.1 hx; exact hb
      · exact (X.blk x (by simp [hx])).mv hm (by simpa using hneT x hx)
  · rcases List.mem_append.1 hx with hx | hx
    · exact X.own x (by simp [hx])
    · rcases List.mem_append.1 hx with hx | hx
      · obtain rfl := List.mem_singleton.1 hx
        rcases hg' with rfl | hg'
        · exact ho
        · exact .inr (by show w0.heap.size ≤ g'; omega)
      · exact X.own x (by simp [hx])
  · rcases (X.rd r hr).2 with h | h
    · exact .inl h
    · rcases (X.rd r hr).1.lt with h2 | h2
      · exact .inl h2
      refine .inr fun b hb x hx heq => ?_
      rcases List.mem_append.1 hx with hx | hx
      · exact h b hb x (by simp [hx]) heq
      · rcases List.mem_append.1 hx with hx | hx
        · obtain rfl := List.mem_singleton.1 hx
          rcases hg' with rfl | hg'
          · exact h b hb ⟨g', cs, e⟩ (by simp) heq
          · have := h2 b hb
            have h3 : g' = b := heq
            omega
        · exact h b hb x (by simp [hx]) heq
theorem St.perm {L2 : List Ent} (X : St S w0 w L R) (hp : L.Perm L2) : St S w0 w L2 R :=
  ⟨X.mv, (hp.map _).nodup_iff.1 X.nd, fun x hx => X.blk x (hp.mem_iff.2 hx), fun x hx => X.own x (hp.mem_iff.2 hx), fun r hr => ⟨(X.rd r hr).1, (X.rd r hr).2.imp id fun h b hb x hx => h b hb x (hp.mem_iff.2 hx)⟩⟩
theorem size_zeros (z : Array Value) (n : Nat) : (Builtin.zeroCells z n).size = n * z.size := by simp [Builtin.zeroCells]
/-- append: the row grows where it is, or a new one is laid. -/
theorem St.push {P : Program} (t ty : TypeId) (bytes : Nat) (hF : Flat f c) (hT : Elem P t e c bytes) (X : St S w0 w (L ++ (M ++ T)) R) (hO : OwnM f e c v l M)
    {vx : Value} (l2 : List α) (hs : RL f w vx l2) (hroom : (l.length + l2.length) * bytes ≤ 140737488355328) (h63 : l.length + l2.length ≤ maxLen) :
    ∃ v' w' M', (Builtin.append_ #[t, t] ty #[v, vx]).run P w = .ok v' w' ∧ OwnM f e c v' (l ++ l2) M' ∧ St S w0 w' (L ++ (M' ++ T)) R := by
  obtain ⟨a, cx, rfl, x1, x2, x3⟩ := hs
  obtain ⟨ht, i, z, hi, hz, hsz, hby, hzs⟩ := hT
  subst hsz
  subst hby
  cases l2 with
  | nil =>
    refine ⟨v, w, M, ?_, by simpa using hO, X⟩
    rcases hO with ⟨rfl, rfl, rfl⟩ | ⟨g, cap, rest, rfl, h1, h2, h3, rfl⟩
    · cases a <;> simp [Builtin.append_, run_underlying ht, Go.sizeOf, typeInfo, hi, Builtin.lenOf, Builtin.firstCells, loadCells, loadCellsFrom]
    · cases a <;> simp [Builtin.append_, run_underlying ht, Go.sizeOf, typeInfo, hi, Builtin.lenOf, Builtin.firstCells, loadCells, loadCellsFrom, h1, storeCells]
  | cons y l2 =>
    have hfl := flat_len hF.len (y :: l2)
    rcases x3 with x3 | ⟨bx, off, rfl, hc⟩
    · exfalso
      have h4 : 0 < (y :: l2).length * i.size := Nat.mul_pos (by simp) hF.pos
      rw [x3] at hfl; rw [← hfl] at h4
      simp at h4
    have hnews : ∀ j u, ((y :: l2).flatMap f)[j]? = some u → w.cell? ((⟨bx, off, none⟩ : Addr).add j) = some u := fun j u hj => by rw [Addr.add_lit]; exact hc j u hj
    have hone : ∀ u ∈ (y :: l2).flatMap f, u.oneCell' = true := fun u hu => by obtain ⟨x, _, hx⟩ := List.mem_flatMap.1 hu; exact hF.one x u hx
    have hpos : 0 < (y :: l2).length := by simp
    generalize hn : (y :: l2).length = m at *
    generalize hnw : (y :: l2).flatMap f = news at *
    have hlm : (l ++ y :: l2).length = l.length + m := by rw [List.length_append, hn]
    have hfm : (l ++ y :: l2).flatMap f = l.flatMap f ++ news := by rw [List.flatMap_append, hnw]
    have hll := flat_len hF.len l
    simp only [maxLen] at h63
    rcases hO with ⟨rfl, rfl, rfl⟩ | ⟨g, cap, rest, rfl, h1, h2, h3, rfl⟩
    · have hr := run_append_nil (P := P) w t ty e i z ht hi hz ⟨bx, off, none⟩ m cx news hfl hnews (by omega) (by omega) (by simp only [List.length_nil, Nat.zero_add] at hroom; omega)
      have hge := grownCap_ge w m 0 e
      have hcm : grownCap w m 0 e ≤ maxLen := grownCap_le_maxLen w m 0 e (by simp only [maxLen]; simp at h63; omega)
      refine ⟨_, _, [⟨w.heap.size, news ++ (Builtin.zeroCells z.cells (grownCap w m 0 e - m)).toList, e⟩], hr, .inr ⟨w.heap.size, grownCap w m 0 e, (Builtin.zeroCells z.cells (grownCap w m 0 e - m)).toList, by rw [hlm]; simp, by rw [hlm]; simpa using hge, hcm, ?_, by rw [hfm]; simp⟩, ?_⟩
      · rw [hfm]
        simp only [List.flatMap_nil, List.nil_append, List.length_append, Array.length_toList, size_zeros, hzs, hfl, ← Nat.add_mul]
        congr 1; omega
      · have X2 := (X.drew.alloc (news ++ (Builtin.zeroCells z.cells (grownCap w m 0 e - m)).toList) e)
        have X3 := X2.perm (L2 := L ++ ([⟨w.heap.size, news ++ (Builtin.zeroCells z.cells (grownCap w m 0 e - m)).toList, e⟩] ++ T)) (by
          simp only [List.nil_append, List.cons_append]
          exact (List.perm_middle).symm)
        have e1 : (news ++ (Builtin.zeroCells z.cells (grownCap w m 0 e - m)).toList).toArray = news.toArray ++ Builtin.zeroCells z.cells (grownCap w m 0 e - m) := by simp
        rw [e1] at X3
        exact X3
    · have hb := X.blk ⟨g, l.flatMap f ++ rest, e⟩ (by simp)
      have htk : (l.flatMap f ++ rest).take (l.length * i.size) = l.flatMap f := by rw [← hll]; exact List.take_left
      by_cases hrm : l.length + m ≤ cap
      · have hfit : l.length * i.size + news.length ≤ (l.flatMap f ++ rest).toArray.size := by
          rw [List.size_toArray, h3, hfl, ← Nat.add_mul]; exact Nat.mul_le_mul_right _ hrm
        have hr := run_append_room (P := P) w t ty e i ht hi g l.length cap _ hb ⟨bx, off, none⟩ m cx news hfl hnews hone hrm hfit
        have hdr : (l.flatMap f ++ rest).drop (l.length * i.size + news.length) = rest.drop news.length := by
          rw [← hll, ← List.drop_drop, List.drop_left]
        rw [List.toList_toArray, htk, hdr] at hr
        refine ⟨_, _, [⟨g, l.flatMap f ++ news ++ rest.drop news.length, e⟩], hr, .inr ⟨g, cap, rest.drop news.length, by rw [hlm], by rw [hlm]; exact hrm, h2, ?_, by rw [hfm]⟩, ?_⟩
        · rw [hfm]
          simp only [List.length_append, List.length_drop] at h3 ⊢
          rw [List.size_toArray, List.length_append] at hfit
          rw [hll] at h3 ⊢
          omega
        · refine X.push_blk ⟨rfl, rfl, rfl, by simp, fun k _ hk => setRow_other w g k _ (fun e => hk (by simp [e]))⟩ ?_ (.inl rfl)
          exact setRow_heap w g _ _ e _ hb
      · have holds : ∀ j u, (l.flatMap f)[j]? = some u → w.cell? ((⟨g, 0, none⟩ : Addr).add j) = some u := fun j u hj => by
          rw [Addr.add_lit, Nat.zero_add, hb.cell]
          have hlt : j < (l.flatMap f).length := (List.getElem?_eq_some_iff.1 hj).1
          simp only [List.getElem?_toArray]
          rw [List.getElem?_append_left hlt]; exact hj
        have hr := run_append_grow (P := P) w t ty e i z ht hi hz ⟨g, 0, none⟩ l.length cap (l.flatMap f) hll holds ⟨bx, off, none⟩ m cx news hfl hnews (by omega) (by omega) (growslice_fits (by omega) hroom)
        have hge := grownCap_ge w (l.length + m) cap e
        have hcm : grownCap w (l.length + m) cap e ≤ maxLen := grownCap_le_maxLen w (l.length + m) cap e (by simp only [maxLen]; omega)
        refine ⟨_, _, [⟨w.heap.size, l.flatMap f ++ news ++ (Builtin.zeroCells z.cells (grownCap w (l.length + m) cap e - (l.length + m))).toList, e⟩], hr, .inr ⟨w.heap.size, grownCap w (l.length + m) cap e, (Builtin.zeroCells z.cells (grownCap w (l.length + m) cap e - (l.length + m))).toList, by rw [hlm], by rw [hlm]; exact hge, hcm, ?_, by rw [hfm]⟩, ?_⟩
        · rw [hfm]
          simp only [List.length_append, Array.length_toList, size_zeros, hzs, hfl, hll, ← Nat.add_mul]
          congr 1; omega
        · have e1 : (l.flatMap f).toArray ++ news.toArray ++ Builtin.zeroCells z.cells (grownCap w (l.length + m) cap e - (l.length + m)) = (l.flatMap f ++ news ++ (Builtin.zeroCells z.cells (grownCap w (l.length + m) cap e - (l.length + m))).toList).toArray := by simp
          rw [e1]
          refine X.push_blk (w1 := w.drew.alloc _) ⟨rfl, rfl, rfl, by simp, fun k hk _ => heap_alloc_old w.drew _ hk⟩ ?_ (.inr (Nat.le_refl _))
          exact Blk.new w.drew _ _
end
end Wb
namespace Wb
open Go Go.RowKit
section
variable {α : Type} {f : α → List Value} {e : TypeId} {c : Nat} {v : Value} {l : List α} {M : List Ent} {S : List Nat} {w0 w w' : World} {L T : List Ent} {R : List Rd}
theorem OwnM.fresh (h : OwnM f e c v l M) (X : St [] w0 w (L ++ (M ++ T)) R) : ∀ b, vblk v = some b → w0.heap.size ≤ b := fun b hb => by
  rcases h with ⟨rfl, rfl, rfl⟩ | ⟨g, cap, rest, rfl, h1, h2, h3, rfl⟩
  · cases hb
  · cases hb
    rcases X.own ⟨g, l.flatMap f ++ rest, e⟩ (by simp) with h | h
    · cases h
    · exact h
/-- 'append(s, y)' where s has a row of its own. pre: the blocks ahead of the row. -/
theorem m_push (pre : List Ent) {P : Program} {ops : Array Oper} {rest : List Oper} {o : Oper} {a : Act} {Q : Exit → Act → World → Prop} {cs : Array Value} {fr : Nat × Nat} {g : Nat} (hgd : o.guard = none) (s x : Operand) (t : TypeId)
    (ho : o.op = .call { callee := .builtin .append, args := #[s, x], argTypes := #[t, t] })
    (bytes : Nat) (hF : Flat f c) (hT : Elem P t e c bytes) (X : St S w0 w (pre ++ (M ++ T)) R) (hO : OwnM f e c v l M) (hs : a.eval s = v)
    (y : α) (hcs : (f y).toArray = cs) (hx : a.eval x = .slice (some ⟨g, 0, none⟩) 1 1) (hroom : (l.length + 1) * bytes ≤ 140737488355328) (h63 : l.length + 1 ≤ maxLen)
    (h : ∀ a' cap' w' M', OwnM f e c (.slice a' (l.length + 1) cap') (l ++ [y]) M' → St S w0 w' (pre ++ (M' ++ T)) R → wpList P ops Q rest (a.put o.dst (.slice a' (l.length + 1) cap')) w')
    (hg : g = w.heap.size := by first | rfl | (simp; done)) : wpList P ops Q (o :: rest) a (w.alloc (.cells cs e fr)) := by
  subst hcs
  subst hg
  have X2 : St S w0 (w.alloc (.cells (f y).toArray e fr)) (pre ++ (M ++ T)) R := X.call (bal (b0 w) _)
  refine wpList_plain hgd fun K hK => ?_
  obtain ⟨v', w', M', hr, r1, r2⟩ := X2.push (P := P) t o.type bytes hF hT hO [y] (RL.new1 w e fr y) hroom h63
  obtain ⟨a', cap', rfl⟩ := r1.form
  have hl : (l ++ [y]).length = l.length + 1 := by simp
  rw [hl] at hr r1
  unfold Oper.wp execOp
  simp only [ho, resolve, invoke, builtin, Sem.run_bind, Sem.run_pure, Result.andThen_ok, List.map_toArray, List.map_cons, List.map_nil, hs, hx, hr]
  exact hK _ _ (h a' cap' w' M' r1 r2)
end
end Wb
