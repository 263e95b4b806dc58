/- The walks of package slices: BinarySearch at numbers; drop. A region that draws its order, walked in one order: reads of known blocks may come at any time, what writes comes when all that it would turn has been read. No program in sight. Where the fields of structs lie. -/
import Derived.Test.YtjhmfljlclajnacKTxnLast6
import Derived.Test.YtjhmfljlclajnacKTxnLast2
import Derived.Test.YtjhmfljlclajnacKTxnLast5
import Derived.OrdersHeld
namespace Wb
open Go Go.RowKit
theorem posI_of {l : List Int} {b : Int} {i : Nat} (hi : i ≤ l.length) (h1 : ∀ k (hk : k < l.length), k < i → l[k] < b) (h2 : ∀ k (hk : k < l.length), i ≤ k → b ≤ l[k]) : posI l b = i := by
  unfold posI
  have e : l.filter (fun x => decide (x < b)) = l.take i := by
    conv => lhs; rw [← List.take_append_drop i l, List.filter_append]
    rw [List.filter_eq_self.2, List.filter_eq_nil_iff.2, List.append_nil]
    · intro c hc
      obtain ⟨k, hk, rfl⟩ := List.mem_iff_getElem.1 hc
      rw [List.getElem_drop]
      rw [List.length_drop] at hk
      have := h2 (i + k) (by omega) (by omega)
      simpa using this
    · intro c hc
      obtain ⟨k, hk, rfl⟩ := List.mem_iff_getElem.1 hc
      rw [List.getElem_take]
      rw [List.length_take] at hk
      exact decide_eq_true (h1 k (by omega) (by omega))
  rw [e, List.length_take]
  omega
theorem inI_of {l : List Int} {b : Int} {i : Nat} (hs : l.Pairwise (· < ·)) (h1 : ∀ k (hk : k < l.length), k < i → l[k] < b) (h2 : ∀ k (hk : k < l.length), i ≤ k → b ≤ l[k]) :
    inI l b = true ↔ ∃ h : i < l.length, l[i] = b := by
  rw [inI_iff]
  constructor
  · intro hb
    obtain ⟨k, hk, hb⟩ := List.mem_iff_getElem.1 hb
    have hik : i ≤ k := by
      by_cases hki : k < i
      · have := h1 k hk hki; omega
      · omega
    refine ⟨by omega, ?_⟩
    by_cases e : i = k
    · subst e; exact hb
    · have := List.pairwise_iff_getElem.1 hs i k (by omega) hk (by omega)
      have := h2 i (by omega) (Nat.le_refl _)
      omega
  · rintro ⟨h, hb⟩
    exact hb ▸ List.getElem_mem h
end Wb
namespace Go.Proofs.Ytjhmfljlclajnac
open Go.RowKit Wb
set_option linter.unusedVariables false
set_option linter.unusedSimpArgs false
set_option maxRecDepth 100000
set_option maxHeartbeats 8000000
theorem cmp_isNaN (x : Int) (w : World) : Calls Try.prog 75 #[.int .i64 x] w fun e w' => e = .returned (.bool false) ∧ w = w' := by
  go_enter Try.func75, Try.ntmps75
  go_wp2
  go_ret
  exact ⟨by simp, rfl⟩
theorem slices_isNaN (x : Int) (w : World) : Calls Try.prog 58 #[.int .i64 x] w fun e w' => e = .returned (.bool false) ∧ w = w' := by
  go_enter Try.func58, Try.ntmps58
  go_wp2
  go_ret
  exact ⟨by simp, rfl⟩
theorem cmp_Less (x y : Int) (w : World) : Calls Try.prog 57 #[.int .i64 x, .int .i64 y] w fun e w' => e = .returned (.bool (decide (x < y))) ∧ w = w' := by
  have h1 := fun x w => cmp_isNaN x w
  replace h1 := hid h1
  go_enter Try.func57, Try.ntmps57
  go_wp2_with (go_at_call 75; refine (h1.out _ _).mono ?_; rintro e w1 ⟨rfl, rfl⟩)
  all_goals go_ret
  all_goals exact ⟨by simp, rfl⟩
theorem slices_BinarySearchI (l : List Int) (b : Int) (v : Value) (w : World) (hs : l.Pairwise (· < ·)) (h : RL intC w v l) (hl : l.length ≤ 17592186044160) :
    Calls Try.prog 39 #[v, .int .i64 b] w fun e w' => e = .returned (.tuple #[.int .i64 (posI l b : Nat), .bool (inI l b)]) ∧ w = w' := by
  obtain ⟨a, cap, rfl, _⟩ := h.form
  have hr := hid (fun k (hk : k < l.length) i (hi : i < k) => List.pairwise_iff_getElem.1 hs i k (by omega) hk hi)
  have hpo := hid (fun i h0 h1 h2 => posI_of (l := l) (b := b) (i := i) h0 h1 h2)
  have hha := hid (fun i h1 h2 => inI_of (l := l) (b := b) (i := i) hs h1 h2)
  generalize posI l b = p at *
  generalize inI l b = hb at *
  have hC := hid (fun x y w => cmp_Less x y w)
  have hN := hid (fun x w => slices_isNaN x w)
  replace h := hid h
  clear hs
  go_enter Try.func39, Try.ntmps39
  go_wp2
  go_loop [7, 8, 9] (fun s7 s8 _ => ∃ lo hi : Nat, s7 = .int .i64 lo ∧ s8 = .int .i64 hi ∧ lo ≤ hi ∧ hi ≤ l.length ∧ Hid (∀ k (hk : k < l.length), k < lo → l[k] < b) ∧ Hid (∀ k (hk : k < l.length), hi ≤ k → b ≤ l[k])) (fun s7 s8 _ => (intOf s8 - intOf s7).toNat)
  case atStart => exact ⟨0, l.length, rfl, rfl, Nat.zero_le _, Nat.le_refl _, hid (fun k _ hk => absurd hk (Nat.not_lt_zero k)), hid (fun k hk h2 => by omega)⟩
  case round =>
    obtain ⟨lo, hi, rfl, rfl, hlh, hin, i1, i2⟩ := hrel
    by_cases hlt : lo < hi
    · have hm : (lo + hi) / 2 < l.length := by omega
      obtain ⟨b1, o1, rfl, c0⟩ := RL.at1 (fun x => .int .i64 x) (fun _ => rfl) h.out hm
      have j1 := hid (fun (hh : l[(lo + hi) / 2] < b) => (show ∀ k (hk : k < l.length), k < (lo + hi) / 2 + 1 → l[k] < b from fun k hk hk2 => by
        by_cases e : k = (lo + hi) / 2
        · subst e; exact hh
        · have := hr.out _ hm k (by omega); omega))
      have j2 := hid (fun (hh : b ≤ l[(lo + hi) / 2]) => (show ∀ k (hk : k < l.length), (lo + hi) / 2 ≤ k → b ≤ l[k] from fun k hk hk2 => by
        by_cases e : k = (lo + hi) / 2
        · subst e; exact hh
        · have := hr.out k hk _ (show (lo + hi) / 2 < k by omega); omega))
      generalize l[(lo + hi) / 2] = x at *
      have hCx := hC.out x b w
      by_cases hx : x < b
      · rw [decide_eq_true hx] at hCx
        replace j1 := hid (j1.out hx)
        replace hCx := hid hCx
        clear j2 hx
        go_wp2_with (go_at_call 57; go_loud ((with_reducible refine (hCx.out).mono ?_); rintro e w1 ⟨rfl, rfl⟩))
        go_round
        case measure => simp [intOf]; omega
        case rel => exact ⟨(lo + hi) / 2 + 1, hi, by rw [show ((lo : Int) + (hi : Int)) / 2 + 1 = (((lo + hi) / 2 + 1 : Nat) : Int) by omega], rfl, by omega, hin, j1, i2⟩
      · rw [decide_eq_false hx] at hCx
        replace j2 := hid (j2.out (by omega))
        replace hCx := hid hCx
        clear j1 hx
        go_wp2_with (go_at_call 57; go_loud ((with_reducible refine (hCx.out).mono ?_); rintro e w1 ⟨rfl, rfl⟩))
        go_round
        case measure => simp [intOf]; omega
        case rel => exact ⟨lo, (lo + hi) / 2, rfl, by rw [show ((lo : Int) + (hi : Int)) / 2 = (((lo + hi) / 2 : Nat) : Int) by omega], by omega, by omega, i1, j2⟩
    · obtain rfl : hi = lo := by omega
      have hp := hid (hpo.out hi hin i1.out i2.out)
      have hh := hid (hha.out hi i1.out i2.out)
      by_cases hn : hi < l.length
      · obtain ⟨b1, o1, rfl, c0⟩ := RL.at1 (fun x => .int .i64 x) (fun _ => rfl) h.out hn
        have hge := i2.out hi hn (Nat.le_refl _)
        have hh2 : hb = true ↔ l[hi] = b := ⟨fun h => (hh.out.1 h).2, fun h => hh.out.2 ⟨hn, h⟩⟩
        clear i1 i2 hh
        generalize l[hi] = x at *
        by_cases hx : x = b
        · have hv := hid (hh2.2 hx)
          have e1 : (x == b) = true := beq_iff_eq.2 hx
          clear hge hh2 hx
          go_wp2_with (go_at_call 58; go_loud ((with_reducible refine (hN.out _ _).mono ?_); rintro e w1 ⟨rfl, rfl⟩))
          go_ret2
          exact ⟨by rw [hp.out, hv.out]; rfl, rfl⟩
        · have hv := hid (show hb = false by
            cases hbv : hb with
            | false => rfl
            | true => exact absurd (hh2.1 hbv) hx)
          have e1 : (x == b) = false := beq_eq_false_iff_ne.2 hx
          clear hge hh2 hx
          go_wp2_with (go_at_call 58; go_loud ((with_reducible refine (hN.out _ _).mono ?_); rintro e w1 ⟨rfl, rfl⟩))
          go_ret2
          exact ⟨by rw [hp.out, hv.out]; rfl, rfl⟩
      · have hv := hid (show hb = false by
          cases hbv : hb with
          | false => rfl
          | true => obtain ⟨h1, _⟩ := hh.out.1 hbv; omega)
        clear hh i1 i2
        go_wp2
        go_ret2
        exact ⟨by rw [hp.out, hv.out]; rfl, rfl⟩
theorem txn_drop (l : List Cpy) (b : Int) (v : Value) (w : World) (h : RL cpyC w v l) (hl : l.length ≤ 5864062014805) :
    Calls Try.prog 38 #[v, .int .i64 b] w fun e w' => ∃ v', e = .returned v' ∧ Own cpyC w.heap.size 68 2 w' v' (dropC l b) ∧ Below w.heap.size w w' := by
  have hCl := fun w' (hb : Below w.heap.size w w') => slices_CloneC l _ w' (h.below hb) hl
  have hDel := fun v w' gb base h1 h2 h3 h4 => slices_DeleteFuncC l b v gb base w' h1 h2 h3 h4 hl
  have hoff : l.filter (fun x => !(x.block == b)) = dropC l b := rfl
  simp only [hoff] at hDel
  obtain ⟨a, cap, rfl, _⟩ := h.form
  replace hCl := hid hCl; replace hDel := hid hDel
  clear h hoff
  have X := St.start [] w
  go_enter Try.func38, Try.ntmps38
  go_wp2_with (first
    | (refine at_mem rfl ?_; (first | (refine at_load rfl ?_; (first | (refine at_load1 _ _ rfl ?_; (first | (refine m_load1 rfl _ _ rfl rfl X (.head _) rfl ?_; (simp only [Act.put, List.setIfInBounds_toArray, List.set_cons_succ, List.set_cons_zero, List.drop_succ_cons, List.drop_zero, List.take_succ_cons, List.take_zero, Nat.reduceAdd])) | (refine m_load1 rfl _ _ rfl rfl X (.tail _ (.head _)) rfl ?_; (simp only [Act.put, List.setIfInBounds_toArray, List.set_cons_succ, List.set_cons_zero, List.drop_succ_cons, List.drop_zero, List.take_succ_cons, List.take_zero, Nat.reduceAdd])) | (refine m_load1 rfl _ _ rfl rfl X (.tail _ (.tail _ (.head _))) rfl ?_; (simp only [Act.put, List.setIfInBounds_toArray, List.set_cons_succ, List.set_cons_zero, List.drop_succ_cons, List.drop_zero, List.take_succ_cons, List.take_zero, Nat.reduceAdd])) | (refine m_load1 rfl _ _ rfl rfl X (.tail _ (.tail _ (.tail _ (.head _)))) rfl ?_; (simp only [Act.put, List.setIfInBounds_toArray, List.set_cons_succ, List.set_cons_zero, List.drop_succ_cons, List.drop_zero, List.take_succ_cons, List.take_zero, Nat.reduceAdd])) | (refine m_load1 rfl _ _ rfl rfl X (.tail _ (.tail _ (.tail _ (.tail _ (.head _))))) rfl ?_; (simp only [Act.put, List.setIfInBounds_toArray, List.set_cons_succ, List.set_cons_zero, List.drop_succ_cons, List.drop_zero, List.take_succ_cons, List.take_zero, Nat.reduceAdd])) | (refine m_load1 rfl _ _ rfl rfl X (.tail _ (.tail _ (.tail _ (.tail _ (.tail _ (.head _)))))) rfl ?_; (simp only [Act.put, List.setIfInBounds_toArray, List.set_cons_succ, List.set_cons_zero, List.drop_succ_cons, List.drop_zero, List.take_succ_cons, List.take_zero, Nat.reduceAdd])) | (refine m_load1 rfl _ _ rfl rfl X (.tail _ (.tail _ (.tail _ (.tail _ (.tail _ (.tail _ (.head _))))))) rfl ?_; (simp only [Act.put, List.setIfInBounds_toArray, List.set_cons_succ, List.set_cons_zero, List.drop_succ_cons, List.drop_zero, List.take_succ_cons, List.take_zero, Nat.reduceAdd])) | (refine m_load1 rfl _ _ rfl rfl X (.tail _ (.tail _ (.tail _ (.tail _ (.tail _ (.tail _ (.tail _ (.head _)))))))) rfl ?_; (simp only [Act.put, List.setIfInBounds_toArray, List.set_cons_succ, List.set_cons_zero, List.drop_succ_cons, List.drop_zero, List.take_succ_cons, List.take_zero, Nat.reduceAdd])))) | (refine m_loadN rfl _ _ rfl rfl X (.head _) (Nat.le_of_ble_eq_true rfl) ?_; (simp only [Act.put, List.setIfInBounds_toArray, List.set_cons_succ, List.set_cons_zero, List.drop_succ_cons, List.drop_zero, List.take_succ_cons, List.take_zero, Nat.reduceAdd])) | (refine m_loadN rfl _ _ rfl rfl X (.tail _ (.head _)) (Nat.le_of_ble_eq_true rfl) ?_; (simp only [Act.put, List.setIfInBounds_toArray, List.set_cons_succ, List.set_cons_zero, List.drop_succ_cons, List.drop_zero, List.take_succ_cons, List.take_zero, Nat.reduceAdd])) | (refine m_loadN rfl _ _ rfl rfl X (.tail _ (.tail _ (.head _))) (Nat.le_of_ble_eq_true rfl) ?_; (simp only [Act.put, List.setIfInBounds_toArray, List.set_cons_succ, List.set_cons_zero, List.drop_succ_cons, List.drop_zero, List.take_succ_cons, List.take_zero, Nat.reduceAdd])) | (refine m_loadN rfl _ _ rfl rfl X (.tail _ (.tail _ (.tail _ (.head _)))) (Nat.le_of_ble_eq_true rfl) ?_; (simp only [Act.put, List.setIfInBounds_toArray, List.set_cons_succ, List.set_cons_zero, List.drop_succ_cons, List.drop_zero, List.take_succ_cons, List.take_zero, Nat.reduceAdd])) | (refine m_loadN rfl _ _ rfl rfl X (.tail _ (.tail _ (.tail _ (.tail _ (.head _))))) (Nat.le_of_ble_eq_true rfl) ?_; (simp only [Act.put, List.setIfInBounds_toArray, List.set_cons_succ, List.set_cons_zero, List.drop_succ_cons, List.drop_zero, List.take_succ_cons, List.take_zero, Nat.reduceAdd])) | (refine m_loadN rfl _ _ rfl rfl X (.tail _ (.tail _ (.tail _ (.tail _ (.tail _ (.head _)))))) (Nat.le_of_ble_eq_true rfl) ?_; (simp only [Act.put, List.setIfInBounds_toArray, List.set_cons_succ, List.set_cons_zero, List.drop_succ_cons, List.drop_zero, List.take_succ_cons, List.take_zero, Nat.reduceAdd])) | (refine m_loadN rfl _ _ rfl rfl X (.tail _ (.tail _ (.tail _ (.tail _ (.tail _ (.tail _ (.head _))))))) (Nat.le_of_ble_eq_true rfl) ?_; (simp only [Act.put, List.setIfInBounds_toArray, List.set_cons_succ, List.set_cons_zero, List.drop_succ_cons, List.drop_zero, List.take_succ_cons, List.take_zero, Nat.reduceAdd])) | (refine m_loadN rfl _ _ rfl rfl X (.tail _ (.tail _ (.tail _ (.tail _ (.tail _ (.tail _ (.tail _ (.head _)))))))) (Nat.le_of_ble_eq_true rfl) ?_; (simp only [Act.put, List.setIfInBounds_toArray, List.set_cons_succ, List.set_cons_zero, List.drop_succ_cons, List.drop_zero, List.take_succ_cons, List.take_zero, Nat.reduceAdd])))) | (refine at_store rfl ?_; (first | (refine at_store1 _ _ _ rfl ?_; (first | (refine m_store1 [] _ rfl _ _ _ rfl rfl (by first | exact EvR.const _ | exact EvR.tmp rfl rfl) X (Nat.le_of_ble_eq_true rfl) rfl rfl ?_; intro w X2; (try simp only [upd, List.nil_append, List.cons_append] at X2); replace X := X2; clear X2; (simp only [Act.put, List.setIfInBounds_toArray, List.set_cons_succ, List.set_cons_zero, List.drop_succ_cons, List.drop_zero, List.take_succ_cons, List.take_zero, Nat.reduceAdd])) | (refine m_store1 [_] _ rfl _ _ _ rfl rfl (by first | exact EvR.const _ | exact EvR.tmp rfl rfl) X (Nat.le_of_ble_eq_true rfl) rfl rfl ?_; intro w X2; (try simp only [upd, List.nil_append, List.cons_append] at X2); replace X := X2; clear X2; (simp only [Act.put, List.setIfInBounds_toArray, List.set_cons_succ, List.set_cons_zero, List.drop_succ_cons, List.drop_zero, List.take_succ_cons, List.take_zero, Nat.reduceAdd])) | (refine m_store1 [_, _] _ rfl _ _ _ rfl rfl (by first | exact EvR.const _ | exact EvR.tmp rfl rfl) X (Nat.le_of_ble_eq_true rfl) rfl rfl ?_; intro w X2; (try simp only [upd, List.nil_append, List.cons_append] at X2); replace X := X2; clear X2; (simp only [Act.put, List.setIfInBounds_toArray, List.set_cons_succ, List.set_cons_zero, List.drop_succ_cons, List.drop_zero, List.take_succ_cons, List.take_zero, Nat.reduceAdd])) | (refine m_store1 [_, _, _] _ rfl _ _ _ rfl rfl (by first | exact EvR.const _ | exact EvR.tmp rfl rfl) X (Nat.le_of_ble_eq_true rfl) rfl rfl ?_; intro w X2; (try simp only [upd, List.nil_append, List.cons_append] at X2); replace X := X2; clear X2; (simp only [Act.put, List.setIfInBounds_toArray, List.set_cons_succ, List.set_cons_zero, List.drop_succ_cons, List.drop_zero, List.take_succ_cons, List.take_zero, Nat.reduceAdd])) | (refine m_store1 [_, _, _, _] _ rfl _ _ _ rfl rfl (by first | exact EvR.const _ | exact EvR.tmp rfl rfl) X (Nat.le_of_ble_eq_true rfl) rfl rfl ?_; intro w X2; (try simp only [upd, List.nil_append, List.cons_append] at X2); replace X := X2; clear X2; (simp only [Act.put, List.setIfInBounds_toArray, List.set_cons_succ, List.set_cons_zero, List.drop_succ_cons, List.drop_zero, List.take_succ_cons, List.take_zero, Nat.reduceAdd])) | (refine m_store1 [_, _, _, _, _] _ rfl _ _ _ rfl rfl (by first | exact EvR.const _ | exact EvR.tmp rfl rfl) X (Nat.le_of_ble_eq_true rfl) rfl rfl ?_; intro w X2; (try simp only [upd, List.nil_append, List.cons_append] at X2); replace X := X2; clear X2; (simp only [Act.put, List.setIfInBounds_toArray, List.set_cons_succ, List.set_cons_zero, List.drop_succ_cons, List.drop_zero, List.take_succ_cons, List.take_zero, Nat.reduceAdd])) | (refine m_store1 [_, _, _, _, _, _] _ rfl _ _ _ rfl rfl (by first | exact EvR.const _ | exact EvR.tmp rfl rfl) X (Nat.le_of_ble_eq_true rfl) rfl rfl ?_; intro w X2; (try simp only [upd, List.nil_append, List.cons_append] at X2); replace X := X2; clear X2; (simp only [Act.put, List.setIfInBounds_toArray, List.set_cons_succ, List.set_cons_zero, List.drop_succ_cons, List.drop_zero, List.take_succ_cons, List.take_zero, Nat.reduceAdd])) | (refine m_store1 [_, _, _, _, _, _, _] _ rfl _ _ _ rfl rfl (by first | exact EvR.const _ | exact EvR.tmp rfl rfl) X (Nat.le_of_ble_eq_true rfl) rfl rfl ?_; intro w X2; (try simp only [upd, List.nil_append, List.cons_append] at X2); replace X := X2; clear X2; (simp only [Act.put, List.setIfInBounds_toArray, List.set_cons_succ, List.set_cons_zero, List.drop_succ_cons, List.drop_zero, List.take_succ_cons, List.take_zero, Nat.reduceAdd])))) | (refine m_storeN [] _ rfl _ _ _ rfl rfl rfl X rfl (Nat.le_of_ble_eq_true rfl) rfl ?_; intro w X2; (try simp only [upd, List.nil_append, List.cons_append] at X2); replace X := X2; clear X2; (simp only [Act.put, List.setIfInBounds_toArray, List.set_cons_succ, List.set_cons_zero, List.drop_succ_cons, List.drop_zero, List.take_succ_cons, List.take_zero, Nat.reduceAdd])) | (refine m_storeN [_] _ rfl _ _ _ rfl rfl rfl X rfl (Nat.le_of_ble_eq_true rfl) rfl ?_; intro w X2; (try simp only [upd, List.nil_append, List.cons_append] at X2); replace X := X2; clear X2; (simp only [Act.put, List.setIfInBounds_toArray, List.set_cons_succ, List.set_cons_zero, List.drop_succ_cons, List.drop_zero, List.take_succ_cons, List.take_zero, Nat.reduceAdd])) | (refine m_storeN [_, _] _ rfl _ _ _ rfl rfl rfl X rfl (Nat.le_of_ble_eq_true rfl) rfl ?_; intro w X2; (try simp only [upd, List.nil_append, List.cons_append] at X2); replace X := X2; clear X2; (simp only [Act.put, List.setIfInBounds_toArray, List.set_cons_succ, List.set_cons_zero, List.drop_succ_cons, List.drop_zero, List.take_succ_cons, List.take_zero, Nat.reduceAdd])) | (refine m_storeN [_, _, _] _ rfl _ _ _ rfl rfl rfl X rfl (Nat.le_of_ble_eq_true rfl) rfl ?_; intro w X2; (try simp only [upd, List.nil_append, List.cons_append] at X2); replace X := X2; clear X2; (simp only [Act.put, List.setIfInBounds_toArray, List.set_cons_succ, List.set_cons_zero, List.drop_succ_cons, List.drop_zero, List.take_succ_cons, List.take_zero, Nat.reduceAdd])) | (refine m_storeN [_, _, _, _] _ rfl _ _ _ rfl rfl rfl X rfl (Nat.le_of_ble_eq_true rfl) rfl ?_; intro w X2; (try simp only [upd, List.nil_append, List.cons_append] at X2); replace X := X2; clear X2; (simp only [Act.put, List.setIfInBounds_toArray, List.set_cons_succ, List.set_cons_zero, List.drop_succ_cons, List.drop_zero, List.take_succ_cons, List.take_zero, Nat.reduceAdd])) | (refine m_storeN [_, _, _, _, _] _ rfl _ _ _ rfl rfl rfl X rfl (Nat.le_of_ble_eq_true rfl) rfl ?_; intro w X2; (try simp only [upd, List.nil_append, List.cons_append] at X2); replace X := X2; clear X2; (simp only [Act.put, List.setIfInBounds_toArray, List.set_cons_succ, List.set_cons_zero, List.drop_succ_cons, List.drop_zero, List.take_succ_cons, List.take_zero, Nat.reduceAdd])) | (refine m_storeN [_, _, _, _, _, _] _ rfl _ _ _ rfl rfl rfl X rfl (Nat.le_of_ble_eq_true rfl) rfl ?_; intro w X2; (try simp only [upd, List.nil_append, List.cons_append] at X2); replace X := X2; clear X2; (simp only [Act.put, List.setIfInBounds_toArray, List.set_cons_succ, List.set_cons_zero, List.drop_succ_cons, List.drop_zero, List.take_succ_cons, List.take_zero, Nat.reduceAdd])) | (refine m_storeN [_, _, _, _, _, _, _] _ rfl _ _ _ rfl rfl rfl X rfl (Nat.le_of_ble_eq_true rfl) rfl ?_; intro w X2; (try simp only [upd, List.nil_append, List.cons_append] at X2); replace X := X2; clear X2; (simp only [Act.put, List.setIfInBounds_toArray, List.set_cons_succ, List.set_cons_zero, List.drop_succ_cons, List.drop_zero, List.take_succ_cons, List.take_zero, Nat.reduceAdd])))) | (first | (refine m_alloc rfl _ rfl X ?_; intro g w X2; (try simp only [upd, List.nil_append, List.cons_append] at X2); replace X := X2; clear X2; (simp only [Act.put, List.setIfInBounds_toArray, List.set_cons_succ, List.set_cons_zero, List.drop_succ_cons, List.drop_zero, List.take_succ_cons, List.take_zero, Nat.reduceAdd])) | (refine m_box rfl _ _ rfl (by first | exact EvR.const _ | exact EvR.tmp rfl rfl) rfl X ?_; intro g w X2; (try simp only [upd, List.nil_append, List.cons_append] at X2); replace X := X2; clear X2; (simp only [Act.put, List.setIfInBounds_toArray, List.set_cons_succ, List.set_cons_zero, List.drop_succ_cons, List.drop_zero, List.take_succ_cons, List.take_zero, Nat.reduceAdd])))))
    | (go_at_call 51; go_loud ((with_reducible refine (hCl.out _ X.below).mono ?_); rintro e w1 ⟨v2, rfl, ho2, hb1⟩; obtain ⟨a2, c2, rfl⟩ := ho2.form; replace hDel := hid (hDel.out _ _ _ _ ho2 hb1.size X.k0.lt ((X.call hb1).k0.cell 0)); replace hb1 := hid hb1; clear ho2))
    | (go_at_call 55; go_loud ((with_reducible refine hDel.out.mono ?_); rintro e w2 ⟨v3, rfl, ho3, hb3⟩; obtain ⟨a3, c3, rfl⟩ := ho3.form; have ho4 := hid (ho3.mono X.mv.size); replace X := X.call (hb1.out.trans hb3); clear hb1 hb3 ho3)))
  go_ret
  exact ⟨_, rfl, ho4.out, X.below⟩
end Go.Proofs.Ytjhmfljlclajnac

namespace Wb
open Go Go.RowKit
set_option linter.unusedVariables false
set_option linter.unusedSimpArgs false
section
variable {P : Program} {ops : Array Oper} {Q : Exit → Act → World → Prop} {md : Region.Mode} {S : World → Prop} {brk : List Nat}

/-- Does operation b wait for operation i by itself? -/
def waitB (md : Region.Mode) (ops : Array Oper) (b i : Nat) : Bool := ((ops[b]?).map fun o => o.after.any fun e => Region.binds md e && e.on == i).getD true
/-- Whatever order comes from here on; every operation but those of 'brk' leaves S as it is. -/
def AnyS (P : Program) (md : Region.Mode) (ops : Array Oper) (Q : Exit → Act → World → Prop) (S : World → Prop) (brk : List Nat) : Nat → Array Bool → Act → World → Prop
  | 0, x, a, w => Region.ready md ops x = [] ∧ Q .normal a w
  | n + 1, x, a, w => (Region.ready md ops x = [] → Q .normal a w) ∧
      ∀ i ∈ Region.ready md ops x, wpOp P ops Q i (fun b v => (brk.contains i = false → S w → S v) ∧ AnyS P md ops Q S brk n (x.setIfInBounds i true) b v) a w
theorem AnyS.any : ∀ (n : Nat) (x : Array Bool) (a : Act) (w : World), AnyS P md ops Q S brk n x a w → wpAny P md ops Q n x a w
  | 0, _, _, _, h => h
  | n + 1, x, a, w, h => ⟨h.1, fun i hi => wpOp_mono (fun b v hh => AnyS.any n _ b v hh.2) (h.2 i hi)⟩
theorem waitB_spec {b i : Nat} {o : Oper} (ho : ops[b]? = some o) (h : waitB md ops b i = true) : ∃ e ∈ o.after, Region.binds md e = true ∧ e.on = i := by
  unfold waitB at h
  rw [ho] at h
  obtain ⟨e, he, hb⟩ := Array.any_eq_true'.1 h
  rw [Bool.and_eq_true, beq_iff_eq] at hb
  exact ⟨e, he, hb.1, hb.2⟩
/-- What is told of an operation that reads: all that it shares with those that may still come. -/
def Loose (md : Region.Mode) (ops : Array Oper) (x : Array Bool) (i : Nat) (o : Oper) : Prop :=
  ∀ j oj, ops[j]? = some oj → j ≠ i → x.getD j true = false → (∀ e ∈ oj.after, Region.binds md e = true → e.on ≠ i) → o.apart ops oj = true
theorem Loose.set {x : Array Bool} {i j : Nat} {o : Oper} (h : Loose md ops x i o) (hj : x.getD j true = false) : Loose md ops (x.setIfInBounds j true) i o := fun k ok hk hne hun hno => by
  by_cases e : j = k
  · subst e; exact h _ ok hk hne hj hno
  · exact h k ok hk hne (by rw [getD_set_ne true e] at hun; exact hun) hno
/-- An operation that reads may be taken first: where S holds, if all that may end S waits for it; or anywhere. -/
theorem AnyS.take {T : World → Prop} {i : Nat} {o : Oper} {v : Value} (hi : ops[i]? = some o) (hsel : ∀ (j : Nat) (o : Oper) cs b, ops[j]? = some o → o.op ≠ .select cs b)
    (hQ : ∀ c a w, Q (.panic c) (a.put o.dst v) w → Q (.panic c) a w) (hT : (T = S ∧ brk.all (fun b => waitB md ops b i) = true) ∨ ∀ w, T w) :
    ∀ (n : Nat) (x : Array Bool) (a : Act) (w : World), Loose md ops x i o → i ∈ Region.ready md ops x → YieldsIf P ops T o v a → T w →
      AnyS P md ops Q S brk n (x.setIfInBounds i true) (a.put o.dst v) w → AnyS P md ops Q S brk (n + 1) x a w
  | n, x, a, w, hl, hr, hy, hS, H => by
    have hne : Region.ready md ops x ≠ [] := fun e => by rw [e] at hr; cases hr
    refine ⟨fun e => absurd e hne, fun j hj => ?_⟩
    by_cases e : j = i
    · subst e
      exact hy.wpOp hi hS ⟨fun _ h => h, H⟩
    · have hj2 := ready_mono hj e
      obtain ⟨hju, oj, hoj, hall⟩ := mem_ready.1 hj
      have hiu := (mem_ready.1 hr).1
      have hnot : ∀ d ∈ oj.after, Region.binds md d = true → d.on ≠ i := fun d hd hb he => by
        have h1 := hall d hd hb
        rw [he] at h1
        rcases Nat.lt_or_ge i x.size with h3 | h3
        · simp [h3] at hiu h1; rw [hiu] at h1; cases h1
        · simp [Array.getElem?_eq_none h3] at h1
      have next : ∀ u, (brk.contains j = false → S w → S u) → T u := fun u hu => by
        rcases hT with ⟨rfl, hbrk⟩ | hT
        · refine hu ?_ hS
          cases hb : brk.contains j with
          | false => rfl
          | true =>
            have h1 := List.all_eq_true.1 hbrk j (by simpa using hb)
            obtain ⟨d, hd, hb1, hb2⟩ := waitB_spec hoj h1
            exact absurd hb2 (hnot d hd hb1)
        · exact hT u
      cases n with
      | zero => rw [H.1] at hj2; cases hj2
      | succ n =>
        have h1 := H.2 j hj2
        have h2 := wpOp_putIf hoj (hl j oj hoj e hju hnot) (fun cs b => hsel i o cs b hi) (fun cs b => hsel j oj cs b hoj) hQ hy h1
        refine wpOp_mono (fun b u hh => ?_) h2
        obtain ⟨hy2, hS2, H2⟩ := hh
        refine ⟨hS2, AnyS.take hi hsel hQ hT n _ b u (hl.set hju) (ready_mono hr (Ne.symm e)) hy2 (next u hS2) ?_⟩
        rw [Array.setIfInBounds_comm _ _ e]
        exact H2

/-! ### One order -/
/-- The operations, in one order: those of 'eff' do something, those of 'lds' read what S tells, the others yield in whatever world. -/
def Seq (P : Program) (ops : Array Oper) (Q : Exit → Act → World → Prop) (S : World → Prop) (brk eff lds : List Nat) : List Nat → Act → World → Prop
  | [], a, w => Q .normal a w
  | i :: r, a, w => if eff.contains i = true then wpOp P ops Q i (fun b v => (brk.contains i = false → S w → S v) ∧ Seq P ops Q S brk eff lds r b v) a w
      else if lds.contains i = true then ∃ o v, ops[i]? = some o ∧ YieldsIf P ops S o v a ∧ S w ∧ (∀ c a w, Q (.panic c) (a.put o.dst v) w → Q (.panic c) a w) ∧ Seq P ops Q S brk eff lds r (a.put o.dst v) w
      else ∃ o v, ops[i]? = some o ∧ YieldsIf P ops (fun _ => True) o v a ∧ (∀ c a w, Q (.panic c) (a.put o.dst v) w → Q (.panic c) a w) ∧ Seq P ops Q S brk eff lds r (a.put o.dst v) w
/-- Is it an order that stands for all? -/
def ordOk (md : Region.Mode) (ops : Array Oper) (brk eff lds : List Nat) : Array Bool → List Nat → Bool
  | x, [] => (Region.ready md ops x).isEmpty
  | x, i :: r => (if eff.contains i = true then Region.ready md ops x == [i] else (Region.ready md ops x).contains i && Region.free md ops x i && (!lds.contains i || brk.all (fun b => waitB md ops b i))) && ordOk md ops brk eff lds (x.setIfInBounds i true) r
theorem Seq.anyS {eff lds : List Nat} (hs : Region.noSelect ops = true) : ∀ (r : List Nat) (x : Array Bool) (a : Act) (w : World), ordOk md ops brk eff lds x r = true → Seq P ops Q S brk eff lds r a w → AnyS P md ops Q S brk r.length x a w
  | [], x, a, w, hk, h => ⟨List.isEmpty_iff.1 hk, h⟩
  | i :: r, x, a, w, hk, h => by
    unfold ordOk at hk
    rw [Bool.and_eq_true] at hk
    obtain ⟨h1, h2⟩ := hk
    unfold Seq at h
    split at h
    · rename_i he
      rw [if_pos he] at h1
      have hr : Region.ready md ops x = [i] := by simpa using h1
      refine ⟨fun e => (by rw [hr] at e; cases e), fun j hj => ?_⟩
      rw [hr] at hj
      obtain rfl : j = i := by simpa using hj
      exact wpOp_mono (fun b v hh => ⟨hh.1, Seq.anyS hs r _ b v h2 hh.2⟩) h
    · rename_i he
      rw [if_neg he, Bool.and_eq_true, Bool.and_eq_true] at h1
      obtain ⟨⟨h3, h4⟩, h5⟩ := h1
      split at h
      · rename_i hl
        rw [hl, Bool.not_true, Bool.false_or] at h5
        obtain ⟨o, v, hi, hy, hS, hQ, hn⟩ := h
        exact AnyS.take hi (Region.noSelect_spec hs) hQ (.inl ⟨rfl, h5⟩) r.length x a w (fun j oj hj hne hun hno => Region.free_spec hi h4 j oj hj hne hun hno) (by simpa using h3) hy hS (Seq.anyS hs r _ _ _ h2 hn)
      · obtain ⟨o, v, hi, hy, hQ, hn⟩ := h
        exact AnyS.take hi (Region.noSelect_spec hs) hQ (.inr fun _ => trivial) r.length x a w (fun j oj hj hne hun hno => Region.free_spec hi h4 j oj hj hne hun hno) (by simpa using h3) hy trivial (Seq.anyS hs r _ _ _ h2 hn)
/-- THE BEGINNING. -/
theorem wp_seq {id : Nat} {a : Act} {w : World} (L : List Ent) (brk eff lds perm : List Nat) (hm : P.follows .mixedOrders = true) (hs : (Region.noSelect ops && (perm.length == ops.size && ordOk .any ops brk eff lds (Array.replicate ops.size false) perm)) = true)
    (h : Seq P ops Q (fun w' => ∀ e ∈ L, Blk w' e.g e.cs.toArray e.t) brk eff lds perm a w.drew) : (Code.region id ops true).wp P Q a w := by
  rw [Bool.and_eq_true, Bool.and_eq_true] at hs
  obtain ⟨h1, h2, h3⟩ := hs
  have := Seq.anyS h1 perm _ a _ h3 h
  rw [show perm.length = ops.size by simpa using h2] at this
  exact wp_region_any hm (AnyS.any _ _ _ _ this)
end

/-! ### The steps -/
def nthO : List Oper → Nat → Option Oper
  | [], _ => none
  | o :: _, 0 => some o
  | _ :: r, n + 1 => nthO r n
theorem nthO_get : ∀ (l : List Oper) (i : Nat), nthO l i = l[i]?
  | [], i => by simp [nthO]
  | v :: r, 0 => rfl
  | v :: r, i + 1 => by rw [List.getElem?_cons_succ]; exact nthO_get r i
def oAt (ops : Array Oper) (i : Nat) : Option Oper := nthO ops.toList i
theorem oAt_get {ops : Array Oper} {i : Nat} {o : Oper} (h : oAt ops i = some o) : ops[i]? = some o := by
  unfold oAt at h
  rw [nthO_get] at h
  simpa using h
section
variable {P : Program} {ops : Array Oper} {Q : Exit → Act → World → Prop} {L0 : List Ent} {brk eff lds : List Nat} {i : Nat} {r : List Nat} {o : Oper} {a : Act} {S : List Nat} {w0 w : World} {L : List Ent} {R : List Rd}
def Kept (L0 : List Ent) (w : World) : Prop := ∀ e ∈ L0, Blk w e.g e.cs.toArray e.t
abbrev SQ (P : Program) (ops : Array Oper) (Q : Exit → Act → World → Prop) (L0 : List Ent) (brk eff lds : List Nat) : List Nat → Act → World → Prop := Seq P ops Q (Kept L0) brk eff lds
def NoLook (Q : Exit → Act → World → Prop) : Prop := ∀ c a (k : Tmp) v w, Q (.panic c) (a.put (some k) v) w → Q (.panic c) a w
theorem NoLook.all (h : NoLook Q) : ∀ c a d v w, Q (.panic c) (a.put d v) w → Q (.panic c) a w := fun c a d v w hh => by
  cases d with
  | none => exact hh
  | some k => exact h c a k v w hh
theorem q_start {id : Nat} (k : Nat) (brk eff lds perm : List Nat) (X : St S w0 w L R) (hm : P.follows .mixedOrders = true) (hs : (Region.noSelect ops && (perm.length == ops.size && ordOk .any ops brk eff lds (Array.replicate ops.size false) perm)) = true) (hQ : NoLook Q)
    (h : NoLook Q → St S w0 w.drew L R → (L.take k).Sublist L → SQ P ops Q (L.take k) brk eff lds perm a w.drew) : (Code.region id ops true).wp P Q a w := wp_seq (L.take k) brk eff lds perm hm hs (h hQ X.drew (List.take_sublist _ _))
theorem q_nil (h : Q .normal a w) : SQ P ops Q L0 brk eff lds [] a w := h
theorem St.keeps (X : St S w0 w L R) (hL : L0.Sublist L) : Kept L0 w := fun e he => X.blk e (hL.subset he)
/-- An operation that does something. -/
theorem q_eff (hi : oAt ops i = some o) (he : eff.contains i = true) (hw : Region.wanted o (yielded ops a.tmps) = true)
    (h : ∀ K : Act → World → Prop, (∀ b v, (brk.contains i = false → Kept L0 w → Kept L0 v) → SQ P ops Q L0 brk eff lds r b v → K b v) → o.wp P a w K Q) : SQ P ops Q L0 brk eff lds (i :: r) a w := by
  unfold SQ Seq
  rw [if_pos he]
  unfold wpOp
  rw [oAt_get hi]
  simp only [hw, if_true]
  exact .inl (h _ fun b v h1 h2 => ⟨h1, h2⟩)
/-- One that reads what is known. -/
theorem q_read {v : Value} (hi : oAt ops i = some o) (he : (!eff.contains i && lds.contains i) = true) (hw : Region.wanted o (yielded ops a.tmps) = true) (X : St S w0 w L R) (hL : L0.Sublist L) (hQ : NoLook Q)
    (hv : ∀ w', Kept L0 w' → (execOp a.eval o).run P w' = .ok (.value v) w') (h : SQ P ops Q L0 brk eff lds r (a.put o.dst v) w) : SQ P ops Q L0 brk eff lds (i :: r) a w := by
  rw [Bool.and_eq_true, Bool.not_eq_true'] at he
  unfold SQ Seq
  rw [if_neg (by rw [he.1]; decide), if_pos he.2]
  exact ⟨o, v, oAt_get hi, .inl ⟨hw, hv⟩, X.keeps hL, fun c a w hh => hQ.all c a o.dst v w hh, h⟩
/-- One whose guard says no. -/
theorem q_skip (hi : oAt ops i = some o) (he : (!eff.contains i && !lds.contains i) = true) (hw : Region.wanted o (yielded ops a.tmps) = false) (hQ : NoLook Q)
    (h : SQ P ops Q L0 brk eff lds r (a.put o.dst undef) w) : SQ P ops Q L0 brk eff lds (i :: r) a w := by
  rw [Bool.and_eq_true, Bool.not_eq_true', Bool.not_eq_true'] at he
  unfold SQ Seq
  rw [if_neg (by rw [he.1]; decide), if_neg (by rw [he.2]; decide)]
  exact ⟨o, undef, oAt_get hi, .inr ⟨hw, rfl⟩, fun c a w hh => hQ.all c a o.dst undef w hh, h⟩
/-- One that yields in whatever world. -/
theorem q_pure {v : Value} (hi : oAt ops i = some o) (he : (!eff.contains i && !lds.contains i) = true) (hw : Region.wanted o (yielded ops a.tmps) = true) (hQ : NoLook Q)
    (hv : ∀ w', (execOp a.eval o).run P w' = .ok (.value v) w') (h : SQ P ops Q L0 brk eff lds r (a.put o.dst v) w) : SQ P ops Q L0 brk eff lds (i :: r) a w := by
  rw [Bool.and_eq_true, Bool.not_eq_true', Bool.not_eq_true'] at he
  unfold SQ Seq
  rw [if_neg (by rw [he.1]; decide), if_neg (by rw [he.2]; decide)]
  exact ⟨o, v, oAt_get hi, .inl ⟨hw, fun w' _ => hv w'⟩, fun c a w hh => hQ.all c a o.dst v w hh, h⟩
theorem q_move {x : Operand} {v : Value} (hi : oAt ops i = some o) (ho : o.op = .move x) (hx : EvR a x v) (he : (!eff.contains i && !lds.contains i) = true) (hw : Region.wanted o (yielded ops a.tmps) = true) (hQ : NoLook Q)
    (h : SQ P ops Q L0 brk eff lds r (a.put o.dst v) w) : SQ P ops Q L0 brk eff lds (i :: r) a w :=
  q_pure hi he hw hQ (fun w' => by unfold execOp; simp only [ho, hx.eval]; rfl) h
theorem q_assign {x : Operand} {v : Value} (hi : oAt ops i = some o) (ho : o.op = .assign x) (hx : EvR a x v) (he : (!eff.contains i && !lds.contains i) = true) (hw : Region.wanted o (yielded ops a.tmps) = true) (hQ : NoLook Q)
    (h : SQ P ops Q L0 brk eff lds r (a.put o.dst v) w) : SQ P ops Q L0 brk eff lds (i :: r) a w :=
  q_pure hi he hw hQ (fun w' => by unfold execOp; simp only [ho, hx.eval]; rfl) h
theorem q_nilCheck {x : Operand} {p : Addr} (hi : oAt ops i = some o) (ho : o.op = .nilCheck x) (hx : EvR a x (.pointer (some p))) (he : (!eff.contains i && !lds.contains i) = true) (hw : Region.wanted o (yielded ops a.tmps) = true) (hQ : NoLook Q)
    (h : SQ P ops Q L0 brk eff lds r (a.put o.dst (.pointer (some p))) w) : SQ P ops Q L0 brk eff lds (i :: r) a w :=
  q_pure hi he hw hQ (fun w' => by unfold execOp; simp only [ho, hx.eval]; rfl) h
theorem q_extract {x : Operand} {k : Nat} {vs : List Value} {v : Value} (hi : oAt ops i = some o) (ho : o.op = .extract x k) (hx : EvR a x (.tuple vs.toArray)) (hv : nth vs k = some v) (he : (!eff.contains i && !lds.contains i) = true) (hw : Region.wanted o (yielded ops a.tmps) = true) (hQ : NoLook Q)
    (h : SQ P ops Q L0 brk eff lds r (a.put o.dst v) w) : SQ P ops Q L0 brk eff lds (i :: r) a w :=
  q_pure hi he hw hQ (fun w' => by
    rw [nth_get] at hv
    unfold execOp; simp only [ho, hx.eval, Instr.extract]; simp [hv]) h
/-- Where a field lies. -/
class FieldT (P : Program) (T : TypeId) (k : Nat) (d : outParam Nat) : Prop where
  at_ : ∀ (g i : Nat) (w : World), (Instr.fieldAt T (.pointer (some ⟨g, i, none⟩)) k).run P w = .ok (.pointer (some ⟨g, i + d, none⟩)) w
theorem q_field {x : Operand} {T : TypeId} {k d g n : Nat} (hi : oAt ops i = some o) (ho : o.op = .fieldAddr T x k) (hx : EvR a x (.pointer (some ⟨g, n, none⟩))) [hF : FieldT P T k d] (he : (!eff.contains i && !lds.contains i) = true) (hw : Region.wanted o (yielded ops a.tmps) = true) (hQ : NoLook Q)
    (h : SQ P ops Q L0 brk eff lds r (a.put o.dst (.pointer (some ⟨g, n + d, none⟩))) w) : SQ P ops Q L0 brk eff lds (i :: r) a w :=
  q_pure hi he hw hQ (fun w' => by unfold execOp; simp only [ho, hx.eval, Sem.run_bind, hF.at_, Result.andThen_ok, Sem.run_pure]) h
theorem q_load1 {x : Operand} {T : TypeId} {g n : Nat} (hi : oAt ops i = some o) (ho : o.op = .load T x) (hx : EvR a x (.pointer (some ⟨g, n, none⟩))) [OneT P T] {cs : List Value} {t : TypeId} (hm : ⟨g, cs, t⟩ ∈ L0) {v : Value} (hv : nth cs n = some v)
    (he : (!eff.contains i && lds.contains i) = true) (hw : Region.wanted o (yielded ops a.tmps) = true) (X : St S w0 w L R) (hL : L0.Sublist L) (hQ : NoLook Q)
    (h : SQ P ops Q L0 brk eff lds r (a.put o.dst v) w) : SQ P ops Q L0 brk eff lds (i :: r) a w :=
  q_read hi he hw X hL hQ (fun w' hw' => by
    have hc : w'.cell? ⟨g, n, none⟩ = some v := by rw [(hw' _ hm).cell n, ← hv, nth_get]; simp
    unfold execOp
    simp only [ho, hx.eval, Instr.loadAt, Instr.sureAddr, Sem.run_bind, Sem.run_pure, Result.andThen_ok, run_loadOne (T := T) hc]) h
theorem q_loadN {x : Operand} {T : TypeId} {g n m : Nat} (hi : oAt ops i = some o) (ho : o.op = .load T x) (hx : EvR a x (.pointer (some ⟨g, n, none⟩))) [hT : AggT P T m] {cs : List Value} {t : TypeId} (hm : ⟨g, cs, t⟩ ∈ L0) (hn : n + m ≤ cs.length)
    (he : (!eff.contains i && lds.contains i) = true) (hw : Region.wanted o (yielded ops a.tmps) = true) (X : St S w0 w L R) (hL : L0.Sublist L) (hQ : NoLook Q)
    (h : SQ P ops Q L0 brk eff lds r (a.put o.dst (.agg ((cs.drop n).take m).toArray)) w) : SQ P ops Q L0 brk eff lds (i :: r) a w :=
  q_read hi he hw X hL hQ (fun w' hw' => by
    obtain ⟨⟨d, hu, hd⟩, hs⟩ := hT
    have hr : (loadVar T ⟨g, n, none⟩).run P w' = .ok (.agg ((cs.drop n).take m).toArray) w' := run_loadVar_mid w' g n T ((cs.drop n).take m) d (fun j v hj => by
      rw [(hw' _ hm).cell]
      rw [List.getElem?_take] at hj
      split at hj
      · rw [List.getElem?_drop] at hj; simpa using hj
      · cases hj) hu hd (by rw [hs, List.length_take, List.length_drop]; congr 1; omega)
    unfold execOp
    simp only [ho, hx.eval, Instr.loadAt, Instr.sureAddr, Sem.run_bind, Sem.run_pure, Result.andThen_ok, hr]) h
/-- A call of a Go function. -/
theorem q_call (f : FuncId) (xs : List Operand) (ts : Array TypeId) (hi : oAt ops i = some o) (ho : o.op = .call { callee := .value (.func f), args := xs.toArray, argTypes := ts }) (args : Array Value) (ha : (xs.map a.eval).toArray = args)
    (hb : ∃ fn c, P.funcs[f]? = some fn ∧ (fn.name == "runtime.NumGoroutine") = false ∧ fn.body = some c) (he : eff.contains i = true) (hw : Region.wanted o (yielded ops a.tmps) = true) {F : Ending → World → Prop}
    (h : Calls P f args w F) (hK : ∀ e w', F e w' → ∃ v, e = .returned v ∧ (brk.contains i = false → Kept L0 w → Kept L0 w') ∧ SQ P ops Q L0 brk eff lds r (a.put o.dst v) w') : SQ P ops Q L0 brk eff lds (i :: r) a w :=
  q_eff hi he hw fun K hk => by
    subst ha
    obtain ⟨fn, c, h1, h2, h3⟩ := hb
    have hr : (execOp a.eval o).run P w = .ok (.enter f (xs.map a.eval).toArray) w := by
      unfold execOp
      simp [ho, resolve, invoke, Deferred.ofValue, Act.eval, run_enter h1 h2 h3]
    unfold Oper.wp
    rw [hr, Oper.upon_enter]
    exact h.mono fun e w' hF => by obtain ⟨v, rfl, hs, hq⟩ := hK e w' hF; exact hk _ _ hs hq
theorem q_store1 (A B : List Ent) {x y : Operand} {T : TypeId} {g n : Nat} {cs : List Value} {t : TypeId} (hi : oAt ops i = some o) (ho : o.op = .store T x y) (hx : EvR a x (.pointer (some ⟨g, n, none⟩))) [OneT P T] {v : Value} (hy : EvR a y v)
    (X : St S w0 w (A ++ ⟨g, cs, t⟩ :: B) R) (hn : n < cs.length) (h1 : v.oneCell' = true) (hc : v.cells = #[v]) (he : eff.contains i = true) (hw : Region.wanted o (yielded ops a.tmps) = true)
    (h : ∀ w', St S w0 w' (A ++ ⟨g, upd n [v] cs, t⟩ :: B) R → (brk.contains i = false → Kept L0 w → Kept L0 w') ∧ SQ P ops Q L0 brk eff lds r (a.put o.dst undef) w') : SQ P ops Q L0 brk eff lds (i :: r) a w :=
  q_eff hi he hw fun K hk => by
    have ht := X.there (g := g) (cs := cs) (t := t) (i := n) (n := 1) (by simp) (by omega)
    obtain ⟨h2, h3⟩ := h _ (by simpa using X.wrote A B n [v] (show n + 1 ≤ cs.length from hn))
    unfold Oper.wp execOp
    simp only [ho, hx.eval, hy.eval, Instr.storeAt, Instr.sureAddr, Sem.run_bind, Sem.run_pure, Result.andThen_ok, run_storeOne (T := T) ht h1 hc]
    exact hk _ _ h2 h3
theorem q_storeN (A B : List Ent) {x y : Operand} {T : TypeId} {g n m : Nat} {cs : List Value} {t : TypeId} (hi : oAt ops i = some o) (ho : o.op = .store T x y) (hx : EvR a x (.pointer (some ⟨g, n, none⟩))) [hT : AggT P T m] {vs : List Value} (hy : a.eval y = .agg vs.toArray)
    (X : St S w0 w (A ++ ⟨g, cs, t⟩ :: B) R) (hm : vs.length = m) (hn : n + vs.length ≤ cs.length) (h1 : vs.all (·.oneCell') = true) (he : eff.contains i = true) (hw : Region.wanted o (yielded ops a.tmps) = true)
    (h : ∀ w', St S w0 w' (A ++ ⟨g, upd n vs cs, t⟩ :: B) R → (brk.contains i = false → Kept L0 w → Kept L0 w') ∧ SQ P ops Q L0 brk eff lds r (a.put o.dst undef) w') : SQ P ops Q L0 brk eff lds (i :: r) a w :=
  q_eff hi he hw fun K hk => by
    obtain ⟨h2, h3⟩ := h _ (by simpa using X.wrote A B n vs hn)
    exact wp_store_mid T x y ho g n vs.toArray hx.eval hy (X.there (cs := cs) (t := t) (by simp) (by simpa using hn)) (by rw [hT.size]; simp [hm]) (by simpa using h1) (hk _ _ (by simpa using h2) (by simpa using h3))
/-- A new block of noughts. -/
theorem q_alloc {T : TypeId} (hi : oAt ops i = some o) (ho : o.op = .alloc T) {cs : List Value} [hT : ZeroT P T cs] (X : St S w0 w L R) (hL : L0.Sublist L) (he : eff.contains i = true) (hw : Region.wanted o (yielded ops a.tmps) = true)
    (h : ∀ g w', St S w0 w' (⟨g, cs, T⟩ :: L) R → L0.Sublist (⟨g, cs, T⟩ :: L) → SQ P ops Q L0 brk eff lds r (a.put o.dst (.pointer (some ⟨g, 0, none⟩))) w') : SQ P ops Q L0 brk eff lds (i :: r) a w :=
  q_eff hi he hw fun K hk => by
    have hz := hT.zero
    cases hq : P.info? T with
    | none => simp [hq] at hz
    | some x =>
      cases hs : x.zero with
      | none => simp [hq, hs] at hz
      | some z =>
        have hc : z.cells = cs.toArray := by simpa [hq, hs] using hz
        have hL' : L0.Sublist ((⟨w.heap.size, cs, T⟩ : Ent) :: L) := hL.cons _
        unfold Oper.wp execOp
        simp only [ho, Instr.alloc, zeroValue, typeInfo, newVar, newRow, newObj, Sem.run_bind, Sem.run_pure, Result.andThen_ok]
        simp [hq, hs, hc]
        exact hk _ _ (fun _ _ => (X.alloc cs T).keeps hL') (h _ _ (X.alloc cs T) hL')
end
end Wb

namespace Go.Proofs.Ytjhmfljlclajnac
open Go.RowKit Wb
instance : FieldT Try.prog 28 0 0 := ⟨fun _ _ _ => by kernel_rfl⟩
instance : FieldT Try.prog 28 1 1 := ⟨fun _ _ _ => by kernel_rfl⟩
instance : FieldT Try.prog 28 2 2 := ⟨fun _ _ _ => by kernel_rfl⟩
instance : FieldT Try.prog 28 3 3 := ⟨fun _ _ _ => by kernel_rfl⟩
instance : FieldT Try.prog 28 4 4 := ⟨fun _ _ _ => by kernel_rfl⟩
instance : FieldT Try.prog 25 0 0 := ⟨fun _ _ _ => by kernel_rfl⟩
instance : FieldT Try.prog 25 1 1 := ⟨fun _ _ _ => by kernel_rfl⟩
instance : FieldT Try.prog 68 0 0 := ⟨fun _ _ _ => by kernel_rfl⟩
instance : FieldT Try.prog 68 1 1 := ⟨fun _ _ _ => by kernel_rfl⟩
end Go.Proofs.Ytjhmfljlclajnac
