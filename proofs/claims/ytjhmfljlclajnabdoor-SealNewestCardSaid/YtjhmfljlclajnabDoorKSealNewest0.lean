/- The walk of NewestOf. The walks of the law's lists of transactions: txns, good. The walk of the law SealNewest. -/
import Derived.Test.YtjhmfljlclajnabDoorKSealCommits0
import Derived.Test.YtjhmfljlclajnabDoorKSealCommits4
import Derived.Test.YtjhmfljlclajnabDoorKSealCommits5
import Derived.Test.YtjhmfljlclajnabDoorKSealCommits11
import Derived.Test.YtjhmfljlclajnabDoorKSealCommits12
set_option linter.unusedVariables false
set_option linter.unusedSimpArgs false
namespace Go.Proofs.YtjhmfljlclajnabDoor
open Go.RowKit Wb
set_option linter.unusedVariables false
set_option linter.unusedSimpArgs false
set_option maxRecDepth 100000
set_option maxHeartbeats 4000000

theorem ref_NewestOf (l : List Txn) (hg : ∀ t ∈ l, goodT t = true) (v : Value) (w : World) (h : RTxns w v l) :
    Calls Tryd.prog 22 #[v] w fun e w' => ∃ v', e = .returned v' ∧ Wb.Own cpyC w.heap.size 74 2 w' v' (newestL l) ∧ Below w.heap.size w w' := by
  obtain ⟨a, cap, rfl, hl⟩ := h.form
  have hR : ∀ (f : Int → Option ByteArray) (b : Int) v w (hh : RL cpyC w v (viewL f)), Calls Tryd.prog 53 #[v, .int .i64 b] w fun e w' => ∃ v', e = .returned v' ∧ Wb.Own cpyC w.heap.size 74 2 w' v' (viewL (fun x => if x = b then none else f x)) ∧ Below w.heap.size w w' := fun f b v w hh => by
    rw [← dropC_view]; exact ref_rest _ b v w hh (Nat.le_trans (viewN_len f 12) (by decide))
  have hW : ∀ (f : Int → Option ByteArray) (b : Int) (s : ByteArray) v w (hh : RL cpyC w v (viewL f)), Calls Tryd.prog 55 #[v, .int .i64 b, .string s] w fun e w' => ∃ v', e = .returned v' ∧ Wb.Own cpyC w.heap.size 74 2 w' v' (viewL (fun x => if x = b then some s else f x)) ∧ Below w.heap.size w w' := fun f b s v w hh => by
    rw [← withL_view]; exact ref_with _ b s v w hh (Nat.le_trans (viewN_len f 12) (by decide))
  have hB := fun b w => ref_isBlock b w
  have hA := fun l b v w h1 h2 => ref_among l b v w h1 h2
  have hgk := fun k (hk : k < l.length) => hg l[k] (List.getElem_mem hk)
  have hst := fun k (hk : k < l.length) b => newestB_step hk b
  have h0 : ∀ b, newestB (l.take 0) b = none := fun b => rfl
  have hnl : newestL l = viewL (newestB l) := rfl
  have hv0 : viewL (fun _ => none) = [] := by unfold viewL viewN; rw [List.filterMap_eq_nil_iff]; intro _ _; rfl
  rw [hnl]
  replace h := hid h; replace hR := hid hR; replace hW := hid hW; replace hB := hid hB; replace hA := hid hA; replace hgk := hid hgk; replace hst := hid hst; replace h0 := hid h0; replace hv0 := hid hv0
  clear hg hnl
  go_enter Tryd.func22, Tryd.ntmps22
  go_wp2
  go_loopw [3, 12] (fun o i wr => ∃ k : Nat, k ≤ l.length ∧ i = .int .i64 k ∧ Wb.Own cpyC w.heap.size 74 2 wr o (viewL (newestB (l.take k))) ∧ Below w.heap.size w wr) (fun _ i _ => l.length - (intOf i).toNat)
  case atStart => exact ⟨0, Nat.zero_le _, rfl, by rw [show viewL (newestB (l.take 0)) = [] from hv0.out]; exact Own.nil _ _ _ _ _, b0 w⟩
  case round =>
    obtain ⟨wo, rfl⟩ : ∃ wo : World, wo = wr := ⟨_, rfl⟩
    obtain ⟨k, hk, rfl, hown, nx⟩ := hrel
    by_cases hlt : k < l.length
    · obtain ⟨b1, o1, vm, vd, vr, rfl, hrt, c0, c1, c2, c3, c4, c5, c6, c7, c8, c9⟩ := (h.out.below nx).at hlt
      have hgt := hgk.out k hlt
      have hstk := hst.out k hlt
      generalize l[k] = t at *
      generalize newestB (l.take k) = g at *
      have hturn := turn_good ((goodT_iff t).1 hgt).2.1 g
      have hend : (fun b => turnT t (g b) b) = newestB (l.take (k + 1)) := funext fun b => (hstk b).symm
      rw [hend] at hturn
      clear hstk hend
      generalize hge : newestB (l.take (k + 1)) = g' at *
      replace hge := hid hge
      obtain ⟨vm', vd', vr', hv, hm, hd, hr, n1, n2, n3⟩ := hrt
      simp only [txnV, Value.agg.injEq, Array.mk.injEq, List.cons.injEq, and_true, true_and] at hv
      obtain ⟨rfl, rfl, rfl⟩ := hv
      obtain ⟨am, cm, rfl, _⟩ := hm.form
      obtain ⟨ad, cd, rfl, _⟩ := hd.form
      obtain ⟨ar, cr, rfl, _⟩ := hr.form
      have hmk := fun j (hj : j < t.mt.length) => (copies_get ((goodT_iff t).1 hgt).2.1 hj).1
      have hma := fun j (hj : j < t.mt.length) => (good_meta hgt hj).1
      have hrs := fun j (hj : j < t.rev.length) => revF_step g hj
      have hms := fun j (hj : j < t.mt.length) => metaF_step (revF g t.rev) hj
      have hr0 : revF g (t.rev.take 0) = g := rfl
      have hrn : revF g (t.rev.take t.rev.length) = revF g t.rev := by rw [List.take_length]
      have hm0 : metaF (revF g t.rev) (t.mt.take 0) = revF g t.rev := rfl
      have hmn : metaF (revF g t.rev) (t.mt.take t.mt.length) = g' := by rw [List.take_length]; exact hturn
      replace hm := hid hm; replace hr := hid hr; replace hmk := hid hmk; replace hma := hid hma; replace hrs := hid hrs; replace hms := hid hms; replace hr0 := hid hr0; replace hrn := hid hrn; replace hm0 := hid hm0; replace hmn := hid hmn
      clear hturn hgt hd
      have k5 : Blk (wo.alloc (.cells #[.int .i64 t.seq, .slice am t.mt.length cm, .slice ad t.dt.length cd, .slice ar t.rev.length cr, .bool t.h0.on, .int .i64 t.h0.left, .bool t.h1.on, .int .i64 t.h1.left, .bool t.h2.on, .int .i64 t.h2.left] 30)) wo.heap.size #[.int .i64 t.seq, .slice am t.mt.length cm, .slice ad t.dt.length cd, .slice ar t.rev.length cr, .bool t.h0.on, .int .i64 t.h0.left, .bool t.h1.on, .int .i64 t.h1.left, .bool t.h2.on, .int .i64 t.h2.left] 30 := Blk.new wo _ _
      go_wp2
      go_loopw [3, 7, 19] (fun o _ i wr => ∃ j : Nat, j ≤ t.rev.length ∧ i = .int .i64 j ∧ Wb.Own cpyC w.heap.size 74 2 wr o (viewL (revF g (t.rev.take j))) ∧ Below w.heap.size w wr ∧ Below (wo.heap.size + 1) (wo.alloc (.cells #[.int .i64 t.seq, .slice am t.mt.length cm, .slice ad t.dt.length cd, .slice ar t.rev.length cr, .bool t.h0.on, .int .i64 t.h0.left, .bool t.h1.on, .int .i64 t.h1.left, .bool t.h2.on, .int .i64 t.h2.left] 30)) wr) (fun _ _ i _ => t.rev.length - (intOf i).toNat)
      case atStart => exact ⟨0, Nat.zero_le _, rfl, by rw [hr0.out]; exact hown.alloc _, bal nx _, Below.refl _ _⟩
      case round =>
        clear hown
        obtain ⟨j, hj, rfl, hown, nx2, hb2⟩ := hrel
        have hbo : Below wo.heap.size wo wr := (bal (b0 wo) _).trans (hb2.mono (by omega))
        by_cases hlt2 : j < t.rev.length
        · obtain ⟨b3, o3, rfl, d0⟩ := RL.at1 (fun x => .int .i64 x) (fun _ => rfl) (hr.out.below hbo) hlt2
          have hs := hrs.out j hlt2
          have hRj := hR.out (revF g (t.rev.take j)) t.rev[j]
          rw [hs] at hRj
          clear hs
          generalize revF g (t.rev.take j) = gj at *
          generalize t.rev[j] = x at *
          obtain ⟨ao, co, rfl⟩ := hown.form
          replace hRj := hid hRj
          go_wp2_with (go_at_call 53; go_loud ((with_reducible refine (hRj.out _ _ hown.reads).mono ?_); rintro e w1 ⟨v1, rfl, hown1, hb1⟩; have nx3 := bgo nx2 hb1; have hb3 := hb2.trans (hb1.mono (by have := hb2.size; simpa using this)); have hown1' := hown1.mono (base' := w.heap.size) nx2.size))
          go_roundw
          case rel => exact ⟨j + 1, by omega, by go_num, hown1', nx3, hb3⟩
          case measure => simp [intOf]; omega
        · obtain rfl : j = t.rev.length := by omega
          rw [hrn.out] at hown
          have k5b := k5.below hb2 (by omega)
          have l5 := k5b.lt
          have c1 := k5b.cell 1
          simp only [List.getElem?_toArray, List.getElem?_cons_zero, List.getElem?_cons_succ] at c1
          go_wp2
          go_loopw [3, 9, 30] (fun o _ i wi => ∃ j : Nat, j ≤ t.mt.length ∧ i = .int .i64 j ∧ Wb.Own cpyC w.heap.size 74 2 wi o (viewL (metaF (revF g t.rev) (t.mt.take j))) ∧ Below w.heap.size w wi ∧ Below (wo.heap.size + 1) (wo.alloc (.cells #[.int .i64 t.seq, .slice am t.mt.length cm, .slice ad t.dt.length cd, .slice ar t.rev.length cr, .bool t.h0.on, .int .i64 t.h0.left, .bool t.h1.on, .int .i64 t.h1.left, .bool t.h2.on, .int .i64 t.h2.left] 30)) wi) (fun _ _ i _ => t.mt.length - (intOf i).toNat)
          case atStart => exact ⟨0, Nat.zero_le _, rfl, by rw [hm0.out]; exact hown, nx2, hb2⟩
          case round =>
            clear hown nx2 hb2 hbo k5b l5 c1
            obtain ⟨j, hj, rfl, hown, nx2, hb2⟩ := hrel
            have hbo : Below wo.heap.size wo wr := (bal (b0 wo) _).trans (hb2.mono (by omega))
            have k5b := k5.below hb2 (by omega)
            have l5 := k5b.lt
            by_cases hlt2 : j < t.mt.length
            · obtain ⟨b3, o3, rfl, d0, d1⟩ := RL.at2 (fun x => .int .i64 x.block) (fun x => .string x.text) (fun _ => rfl) (hm.out.below hbo) hlt2
              have hs := hms.out j hlt2
              have hWj := hW.out (metaF (revF g t.rev) (t.mt.take j)) t.mt[j].block t.mt[j].text
              rw [hs] at hWj
              have hBj := hB.out t.mt[j].block
              rw [hmk.out j hlt2] at hBj
              have hAj := hA.out t.rev t.mt[j].block (.slice ar t.rev.length cr)
              rw [hma.out j hlt2] at hAj
              clear hs
              generalize metaF (revF g t.rev) (t.mt.take j) = gj at *
              generalize t.mt[j] = x at *
              obtain ⟨ao, co, rfl⟩ := hown.form
              replace hWj := hid hWj; replace hBj := hid hBj; replace hAj := hid hAj
              have c3 := k5b.cell 3
              simp only [List.getElem?_toArray, List.getElem?_cons_zero, List.getElem?_cons_succ] at c3
              have k9 : Blk (wr.alloc (.cells #[.int .i64 x.block, .string x.text] 74)) wr.heap.size #[.int .i64 x.block, .string x.text] 74 := Blk.new wr _ _
              go_wp2_with (first
                | (go_at_call 52; go_loud ((with_reducible refine (hBj.out _).mono ?_); rintro e w1 ⟨rfl, rfl⟩))
                | (go_at_call 54; go_loud ((with_reducible refine (hAj.out _ (hr.out.below (bal hbo _)) n3).mono ?_); rintro e w1 ⟨rfl, rfl⟩))
                | (go_at_call 55; go_loud ((with_reducible refine (hWj.out _ _ (hown.alloc _).reads).mono ?_); rintro e w1 ⟨v1, rfl, hown1, hb1⟩; have nx3 := bgo (bal nx2 _) hb1; have hb3 := (allocB hb2 (by simp) _).trans (hb1.mono (by have := hb2.size; simp at this ⊢; omega)); have hown1' := hown1.mono (base' := w.heap.size) (by have := nx2.size; simp; omega))))
              go_roundw
              case rel => exact ⟨j + 1, by omega, by go_num, hown1', nx3, hb3⟩
              case measure => simp [intOf]; omega
            · obtain rfl : j = t.mt.length := by omega
              rw [hmn.out] at hown
              go_wp2
              go_roundw
              case rel => exact ⟨k + 1, by omega, by go_num, by rw [hge.out]; exact hown, nx2⟩
              case measure => simp [intOf]; omega
    · obtain rfl : k = l.length := by omega
      rw [List.take_length] at hown
      go_wp2
      go_ret
      exact ⟨_, rfl, hown, nx⟩
end Go.Proofs.YtjhmfljlclajnabDoor

namespace Go.Proofs.YtjhmfljlclajnabDoor
open Go.RowKit Wb
set_option linter.unusedVariables false
set_option linter.unusedSimpArgs false
set_option maxRecDepth 100000
set_option maxHeartbeats 4000000
theorem elemTxn : Elem Tryd.prog 40 30 10 128 := Elem.mk' (z := .agg #[.int .i64 0, .slice none 0 0, .slice none 0 0, .slice none 0 0, .bool false, .int .i64 0, .bool false, .int .i64 0, .bool false, .int .i64 0]) Tryd.underlying40 (by kernel_rfl) rfl

theorem law_txns (l : List Txn) (v : Value) (w : World) (h : RTxns w v l) :
    Calls Tryd.prog 21 #[v] w fun e w' => ∃ v', e = .returned v' ∧ OTxns w.heap.size 30 74 3 w' v' l ∧ Below w.heap.size w w' := by
  obtain ⟨a, cap, rfl, hl⟩ := h.form
  have hC := fun t v w (hh : RTxn w v t) => ref_CopyTxn t v w hh
  have hst := fun k (hk : k < l.length) => List.take_succ_eq_append_getElem hk
  have h0 : l.take 0 = [] := rfl
  replace h := hid h; replace hC := hid hC; replace hst := hid hst; replace h0 := hid h0
  go_enter Tryd.func21, Tryd.ntmps21
  go_wp2
  go_loopw [3, 8] (fun o i wr => ∃ k : Nat, k ≤ l.length ∧ i = .int .i64 k ∧ OTxns w.heap.size 30 74 3 wr o (l.take k) ∧ Below w.heap.size w wr) (fun _ i _ => l.length - (intOf i).toNat)
  case atStart => exact ⟨0, Nat.zero_le _, rfl, by rw [h0.out]; exact OTxns.nil _ _ _ _ _, b0 w⟩
  case round =>
    obtain ⟨k, hk, rfl, hown, nx⟩ := hrel
    by_cases hlt : k < l.length
    · obtain ⟨b1, o1, am, cm, ad, cd, ar, cr, rfl, hrt, c0, c1, c2, c3, c4, c5, c6, c7, c8, c9⟩ := (h.out.below nx).at3 hlt
      have hstk := hst.out k hlt
      have hlk : (l.take k).length ≤ 1099511627743 := by rw [List.length_take]; omega
      generalize hl2 : l.take (k + 1) = l2 at *
      replace hl2 := hid hl2
      generalize l.take k = l1 at *
      generalize l[k] = t at *
      obtain ⟨xs, hox, hxm, hxo⟩ := hown
      have hxl : xs.length = l1.length := by rw [← hxm]; simp
      have hxl2 : xs.length ≤ 1099511627743 := by omega
      replace hxl := hid hxl; replace hxm := hid hxm; replace hxo := hid hxo
      replace hrt := hid hrt
      replace hstk := hid hstk
      go_wp2_with (first
        | (go_at_call 7; go_loud ((refine (hC.out t _ _ (hrt.out.below (bal (b0 wr) _))).mono ?_); rintro e w1 ⟨v1, rfl, hot, hb1⟩; obtain ⟨y, hyt, hv, hoy⟩ := hot.tv; obtain ⟨ty, ⟨q1, q2, q3⟩, ⟨q4, q5, q6⟩, ⟨q7, q8, q9⟩⟩ := y; subst hyt; dsimp only [TV.val, txnV, SlV.val] at hv; subst hv; have nx1 := bgo (bal nx _) hb1; have hox1 := (hox.alloc _).below hb1; have hxo1 := hid (fun x hx => ((hxo.out x hx).below (bgo (bal (b0 wr) _) hb1))); have hoy2 := hid (hoy.mono (b2 := w.heap.size) (by have := nx.size; simp; omega)); clear hox hoy hot))
        | (at_builtin; go_loud (refine wpList_push rfl _ _ _ rfl w.heap.size _ 10 128 tvC_flat elemTxn hox1 rfl ⟨ty, ⟨q1, q2, q3⟩, ⟨q4, q5, q6⟩, ⟨q7, q8, q9⟩⟩ rfl rfl (by omega) (by unfold maxLen; omega) nx1.size ?_); intro v7 w7 hown7 hbel7 hg7))
      have hp := OTxns.pushed hox1 hxo1.out hoy2.out (by decide) (by decide) hown7 hg7
      rw [hxm.out] at hp
      dsimp only at hp
      rw [← hstk.out] at hp
      replace hp := hid hp
      go_wp2
      go_roundw
      case rel => exact ⟨k + 1, by omega, by go_num, by rw [hl2.out]; exact hp.out, nx1.trans hbel7⟩
      case measure => simp [intOf]; omega
    · obtain rfl : k = l.length := by omega
      rw [List.take_length] at hown
      go_wp2
      go_ret
      exact ⟨_, rfl, hown, nx⟩

theorem law_good (l : List Txn) (v : Value) (w : World) (h : RTxns w v l) :
    Calls Tryd.prog 19 #[v] w fun e w' => e = .returned (.bool (l.all goodT)) ∧ Below w.heap.size w w' := by
  obtain ⟨a, cap, rfl, hl⟩ := h.form
  have hG := fun t v w (hh : RTxn w v t) => ref_GoodTxn t v w hh
  have hno := fun k (hk : k < l.length) (hn : goodT l[k] = false) => all_no (p := goodT) hk hn
  have hst := fun k (hk : k < l.length) hh (hn : goodT l[k] = true) => all_step (p := goodT) hk hh hn
  replace h := hid h; replace hG := hid hG; replace hst := hid hst; replace hno := hid hno
  go_enter Tryd.func19, Tryd.ntmps19
  go_wp2
  go_loopw [7] (fun i wr => ∃ k : Nat, k ≤ l.length ∧ i = .int .i64 k ∧ Hid ((l.take k).all goodT = true) ∧ Below w.heap.size w wr) (fun i _ => l.length - (intOf i).toNat)
  case atStart => exact ⟨0, Nat.zero_le _, rfl, hid rfl, b0 w⟩
  case round =>
    obtain ⟨k, hk, rfl, hall, nx⟩ := hrel
    by_cases hlt : k < l.length
    · obtain ⟨b1, o1, am, cm, ad, cd, ar, cr, rfl, hrt, c0, c1, c2, c3, c4, c5, c6, c7, c8, c9⟩ := (h.out.below nx).at3 hlt
      have hnk := hno.out k hlt
      have hsk := hst.out k hlt hall.out
      generalize l[k] = t at *
      have hGt := hG.out t
      replace hrt := hid hrt; replace hnk := hid hnk; replace hsk := hid hsk
      cases hg : goodT t with
      | true =>
        rw [hg] at hGt
        have hs := hid (hsk.out hg)
        clear hg
        replace hGt := hid hGt
        go_wp2_with (go_at_call 43; go_loud ((refine (hGt.out _ _ (hrt.out.below (bal (b0 wr) _))).mono ?_); rintro e w1 ⟨rfl, hb1⟩; have nx1 := bgo (bal nx _) hb1))
        go_roundw
        case rel => exact ⟨k + 1, by omega, by go_num, hs, nx1⟩
        case measure => simp [intOf]; omega
      | false =>
        rw [hg] at hGt
        have hs := hid (hnk.out hg)
        clear hg
        replace hGt := hid hGt
        go_wp2_with (go_at_call 43; go_loud ((refine (hGt.out _ _ (hrt.out.below (bal (b0 wr) _))).mono ?_); rintro e w1 ⟨rfl, hb1⟩; have nx1 := bgo (bal nx _) hb1))
        go_ret
        exact ⟨ret_b hs.out.symm, nx1⟩
    · obtain rfl : k = l.length := by omega
      have hv := hall.out
      rw [List.take_length] at hv
      replace hv := hid hv
      go_wp2
      go_ret
      exact ⟨ret_b hv.out.symm, nx⟩
end Go.Proofs.YtjhmfljlclajnabDoor

namespace Go.Proofs.YtjhmfljlclajnabDoor
open Go.RowKit Wb
set_option linter.unusedVariables false
set_option linter.unusedSimpArgs false
set_option maxRecDepth 100000
set_option maxHeartbeats 16000000
theorem law_SealNewest (l : List Txn) (b : Int) (v : Value) (w0 : World) (hT : RTxns w0 v l) (hF : Sl w0 (flR 0).v 1 (flR 0).cs) :
    Calls Tryd.prog 4 #[v, .int .i64 b] w0 fun e w' => e = .returned (.bool true) ∧ Below w0.heap.size w0 w' := by
  obtain ⟨a, cap, rfl, hl⟩ := hT.form
  have hSe := fun w' (hb : Below w0.heap.size w0 w') => keep_seals w' (hF.below hb)
  have hG := fun t v w' (hh : RTxn w' v t) => txn_Good t v w' hh
  have hN : (∀ t ∈ l, goodT t = true) → ∀ w', Below w0.heap.size w0 w' → _ := fun hg w' hb => seal_Newest l hg _ w' (hT.below hb)
  have hGe := fun (m : List Cpy) v w' (h : RL cpyC w' v m) (hl : m.length ≤ 5864062014805) => txn_Get m b v w' h hl
  have hNl : (newestL l).length ≤ 5864062014805 := by have : (newestL l).length ≤ 12 := viewN_len _ 12; omega
  have hNg : (∀ t ∈ l, goodT t = true) → getC (newestL l) b = newestB l b := fun hg => newestL_get hg b
  have X : St [] w0 w0 [] [] := St.start [] w0
  replace hSe := hid hSe; replace hG := hid hG; replace hN := hid hN; replace hGe := hid hGe; replace hNg := hid hNg; replace hT := hid hT
  clear hF
  go_enter Tryd.func4, Tryd.ntmps4
  go_wp2
  go_loopw [16] (fun i wr => ∃ k : Nat, k ≤ l.length ∧ i = .int .i64 k ∧ Hid (∀ t ∈ l.take k, goodT t = true) ∧ St [] w0 wr [] []) (fun i _ => l.length - (intOf i).toNat)
  case atStart => exact ⟨0, Nat.zero_le _, rfl, hid (by simp), X⟩
  case round =>
    clear X
    obtain ⟨k, hk, rfl, hgk, X⟩ := hrel
    by_cases hlt : k < l.length
    · obtain ⟨bb, off, vm, vd, vr, hbb, hrt, c0, c1, c2, c3, c4, c5, c6, c7, c8, c9⟩ := (hT.out.below X.below).at hlt
      cases hbb
      have hcg := fun w' (hb : RTxn w' (txnV l[k] vm vd vr) l[k]) => hG.out l[k] _ w' hb
      have hrb := fun w' (hb : Below wr.heap.size wr w') => hrt.below hb
      obtain ⟨vm2, vd2, vr2, hvv, f1, f2, f3, _⟩ := hrt
      simp only [txnV, Value.agg.injEq, Array.mk.injEq, List.cons.injEq, and_true, true_and] at hvv
      obtain ⟨rfl, rfl, rfl⟩ := hvv
      obtain ⟨am, cm, rfl, _⟩ := f1.form
      obtain ⟨ad, cd, rfl, _⟩ := f2.form
      obtain ⟨ar, cr, rfl, _⟩ := f3.form
      have hgn : goodT l[k] = true → ∀ t ∈ l.take (k + 1), goodT t = true := fun h t ht => by
        rw [List.take_succ_eq_append_getElem hlt] at ht
        rcases List.mem_append.1 ht with ht | ht
        · exact hgk.out t ht
        · rw [List.mem_singleton.1 ht]; exact h
      have Y : St [] wr wr [] [] := St.start [] wr
      have hXY : ∀ w', Below wr.heap.size wr w' → St [] w0 w' [] [] := fun w' hb => X.call hb
      clear X f1 f2 f3
      generalize goodT l[k] = gk at *
      simp only [txnV] at hcg hrb
      generalize l[k] = t at *
      have X := Y
      clear Y
      replace hcg := hid hcg; replace hrb := hid hrb; replace hgn := hid hgn; replace hXY := hid hXY
      cases gk with
      | false =>
        go_wp2_with (first
          | (refine at_mem rfl ?_; (first | (refine at_load rfl ?_; (first | (refine c_load1 rfl _ _ rfl rfl X (by first | exact ReadA.here rfl | exact ReadA.there (ReadA.here rfl)) ?_) | (refine c_loadN rfl _ _ rfl rfl X (by first | exact ReadB.here (Nat.le_of_ble_eq_true rfl) | exact ReadB.there (ReadB.here (Nat.le_of_ble_eq_true rfl))) ?_))) | (refine at_store rfl ?_; (first | (refine c_store1 rfl _ _ _ rfl rfl (by first | exact EvR.const _ | exact EvR.tmp rfl rfl) X rfl rfl (by first | exact PutA.here (Nat.le_of_ble_eq_true rfl) | exact PutA.there (PutA.here (Nat.le_of_ble_eq_true rfl))) ?_; intro w X2; (try simp only [upd] at X2); replace X := X2; clear X2) | (refine c_storeN rfl _ _ _ rfl rfl rfl X rfl rfl (by first | exact PutA.here (Nat.le_of_ble_eq_true rfl) | exact PutA.there (PutA.here (Nat.le_of_ble_eq_true rfl))) ?_; intro w X2; (try simp only [upd] at X2); replace X := X2; clear X2))) | (refine m_alloc rfl _ rfl X ?_; intro g w X2; (replace X := X2; clear X2))); (simp only [Act.put, List.setIfInBounds_toArray, List.set_cons_succ, List.set_cons_zero, List.drop_succ_cons, List.drop_zero, List.take_succ_cons, List.take_zero, Nat.reduceAdd]))
          | (go_at_call 13; go_loud ((with_reducible refine (hcg.out _ (hrb.out _ X.below)).mono ?_); rintro e w1 ⟨rfl, hb1⟩; replace X := X.call hb1; clear hb1))
          | (go_at_call 14; go_loud ((with_reducible refine (hSe.out _ (hXY.out _ X.below).below).mono ?_); rintro e w1 ⟨rfl, hb1⟩; replace X := X.call hb1; clear hb1)))
        go_ret
        exact ⟨rfl, (hXY.out _ X.below).below⟩
      | true =>
        go_wp2_with (first
          | (refine at_mem rfl ?_; (first | (refine at_load rfl ?_; (first | (refine c_load1 rfl _ _ rfl rfl X (by first | exact ReadA.here rfl | exact ReadA.there (ReadA.here rfl)) ?_) | (refine c_loadN rfl _ _ rfl rfl X (by first | exact ReadB.here (Nat.le_of_ble_eq_true rfl) | exact ReadB.there (ReadB.here (Nat.le_of_ble_eq_true rfl))) ?_))) | (refine at_store rfl ?_; (first | (refine c_store1 rfl _ _ _ rfl rfl (by first | exact EvR.const _ | exact EvR.tmp rfl rfl) X rfl rfl (by first | exact PutA.here (Nat.le_of_ble_eq_true rfl) | exact PutA.there (PutA.here (Nat.le_of_ble_eq_true rfl))) ?_; intro w X2; (try simp only [upd] at X2); replace X := X2; clear X2) | (refine c_storeN rfl _ _ _ rfl rfl rfl X rfl rfl (by first | exact PutA.here (Nat.le_of_ble_eq_true rfl) | exact PutA.there (PutA.here (Nat.le_of_ble_eq_true rfl))) ?_; intro w X2; (try simp only [upd] at X2); replace X := X2; clear X2))) | (refine m_alloc rfl _ rfl X ?_; intro g w X2; (replace X := X2; clear X2))); (simp only [Act.put, List.setIfInBounds_toArray, List.set_cons_succ, List.set_cons_zero, List.drop_succ_cons, List.drop_zero, List.take_succ_cons, List.take_zero, Nat.reduceAdd]))
          | (go_at_call 13; go_loud ((with_reducible refine (hcg.out _ (hrb.out _ X.below)).mono ?_); rintro e w1 ⟨rfl, hb1⟩; replace X := X.call hb1; clear hb1)))
        go_roundw
        case rel => exact ⟨k + 1, by omega, by go_num, hid (hgn.out trivial), hXY.out _ X.below⟩
        case measure => simp [intOf]; omega
    · obtain rfl : k = l.length := by omega
      have hga : ∀ t ∈ l, goodT t = true := by have := hgk.out; rwa [List.take_length] at this
      have hN2 := hN.out hga
      have hg1 := hNg.out hga
      have hbr := fun j (hj : j < l.length) => back_rev hga hj (b := b)
      have hbg := fun j (hj : j < l.length) s => back_get (l := l) hj (b := b) (s := s)
      have hbn := fun j (hj : j < l.length) => back_no (l := l) hj (b := b)
      have hfull : newestB (l.take l.length) b = newestB l b := by rw [List.take_length]
      have hGN := fun v w' h => hGe.out (newestL l) v w' h hNl
      rw [hg1] at hGN
      generalize newestL l = NL at *
      generalize hob : newestB l b = ob at *
      replace hN2 := hid hN2; replace hbr := hid hbr; replace hbg := hid hbg; replace hbn := hid hbn; replace hfull := hid hfull; replace hGN := hid hGN; replace hob := hid hob; replace hga := hid hga; replace hg1 := hid hg1
      clear hgk hN hNg hlt hk
      go_wp2_with (first
        | (go_at_call 16; go_loud ((with_reducible refine (hN2.out _ X.below).mono ?_); rintro e w1 ⟨va, rfl, hoa, hb1⟩; obtain ⟨ln, lm, rfl, _⟩ := hoa.reads.form; replace X := X.addOwn hb1 hoa; clear hb1 hoa))
        | (go_at_call 15; go_loud ((with_reducible refine (hGN.out _ _ X.r0).mono ?_); rintro e w1 ⟨rfl, hb1⟩; replace X := X.call hb1; clear hb1)))
      go_loopw [9] (fun i wr => ∃ (j : Nat) (z : Int), j ≤ l.length ∧ z = (j : Int) - 1 ∧ i = .int .i64 z ∧ Hid (newestB (l.take j) b = ob) ∧ St [] w0 wr [] [Rd.of cpyC (.slice ln NL.length lm) NL]) (fun i _ => (intOf i + 1).toNat)
      case atStart => exact ⟨l.length, _, Nat.le_refl _, rfl, rfl, hid (hfull.out.trans rfl), X⟩
      case round =>
        clear X
        obtain ⟨j, z, hj, hz, rfl, hnj, X⟩ := hrel
        by_cases hj0 : j = 0
        · subst hj0
          have hon : ob = none := by rw [← hnj.out]; rfl
          have hz0 : ¬ 0 ≤ z := by omega
          subst hon
          go_wp2_with (first
            | (go_at_call 14; go_loud ((with_reducible refine (hSe.out _ X.below).mono ?_); rintro e w1 ⟨rfl, hb1⟩; replace X := X.call hb1; clear hb1)))
          go_ret
          exact ⟨rfl, X.below⟩
        · obtain ⟨k, rfl⟩ : ∃ k, j = k + 1 := ⟨j - 1, by omega⟩
          obtain rfl : z = (k : Int) := by omega
          have hlt : k < l.length := by omega
          obtain ⟨bb, off, vm, vd, vr, hbb, hrt, c0, c1, c2, c3, c4, c5, c6, c7, c8, c9⟩ := (hT.out.below X.below).at hlt
          cases hbb
          obtain ⟨vm2, vd2, vr2, hvv, f1, f2, f3, n1, n2, n3⟩ := hrt
          simp only [txnV, Value.agg.injEq, Array.mk.injEq, List.cons.injEq, and_true, true_and] at hvv
          obtain ⟨rfl, rfl, rfl⟩ := hvv
          obtain ⟨am, cm, rfl, _⟩ := f1.form
          obtain ⟨ar, cr, rfl, hcr, _⟩ := f3.form
          have hGk := fun w' (h : RL cpyC w' (.slice am l[k].mt.length cm) l[k].mt) => hGe.out l[k].mt (.slice am l[k].mt.length cm) w' h n1
          have hb1 := hbr.out k hlt
          have hb2 := hbg.out k hlt
          have hb3 := hbn.out k hlt
          rw [hnj.out] at hb1 hb2 hb3
          replace f1 := hid f1; replace hb1 := hid hb1; replace hb2 := hid hb2; replace hb3 := hid hb3
          have X := X.addR (n := l[k].rev.length) f3 (.inr (fun _ _ e he => absurd he List.not_mem_nil))
          clear c0 c2 c4 c5 c6 c7 c8 c9 hz hj0 f2
          generalize l[k].mt = m at *
          generalize l[k].rev = rv at *
          have X : St [] w0 wr [] [Rd.of intC (.slice ar rv.length cr) rv, Rd.of cpyC (.slice ln NL.length lm) NL] := X
          have hx0 : (0 : Int) ≤ (k : Int) := by omega
          cases hgm : getC m b with
          | some s =>
            have ho := hb2.out s hgm
            subst ho
            rw [hgm] at hGk
            replace hGk := hid hGk
            clear hgm f3
            go_wp2_with (first
              | (go_at_call 15; go_loud ((with_reducible refine (hGk.out _ f1.out).mono ?_); rintro e w1 ⟨rfl, hb1⟩; replace X := X.call hb1; clear hb1))
              | (go_at_call 14; go_loud ((with_reducible refine (hSe.out _ X.below).mono ?_); rintro e w1 ⟨rfl, hb1⟩; replace X := X.call hb1; clear hb1)))
            go_ret
            exact ⟨rfl, X.below⟩
          | none =>
            rw [hgm] at hGk
            replace hGk := hid hGk
            have hb4 := fun h => hb3.out h hgm
            replace hb4 := hid hb4
            clear hgm f3 hb3
            go_wp2_with (first
              | (go_at_call 15; go_loud ((with_reducible refine (hGk.out _ f1.out).mono ?_); rintro e w1 ⟨rfl, hb1⟩; replace X := X.call hb1; replace c3 := (World.cell?_of_block (hb1.block _ (World.block_lt_of_cell? _ _ c3))).trans c3; clear hb1)))
            go_loopw [65] (fun i wr => ∃ (q : Nat), q ≤ rv.length ∧ i = .int .i64 q ∧ Hid (inI (rv.take q) b = false) ∧ St [] w0 wr [] [Rd.of intC (.slice ar rv.length cr) rv, Rd.of cpyC (.slice ln NL.length lm) NL]) (fun i _ => rv.length - (intOf i).toNat)
            case atStart => exact ⟨0, Nat.zero_le _, rfl, hid rfl, X⟩
            case round =>
              clear X c3
              obtain ⟨q, hq, rfl, hin, X⟩ := hrel
              by_cases hlq : q < rv.length
              · obtain ⟨bz, oz, hbz, d0⟩ := RL.at1 (fun x : Int => .int .i64 x) (fun _ => rfl) X.r0 hlq
                cases hbz
                by_cases he : rv[q] = b
                · have hon := hb1.out (inI_hit hlq he)
                  subst hon
                  rw [he] at d0
                  clear he hin hb1
                  go_wp2_with (first
                    | (go_at_call 14; go_loud ((with_reducible refine (hSe.out _ X.below).mono ?_); rintro e w1 ⟨rfl, hb1⟩; replace X := X.call hb1; clear hb1)))
                  go_ret
                  exact ⟨rfl, X.below⟩
                · have hst : inI (rv.take (q + 1)) b = false := by rw [inI_step hlq, hin.out, beq_eq_false_iff_ne.2 he]; rfl
                  generalize rv[q] = x at *
                  have he2 : (x == b) = false := beq_eq_false_iff_ne.2 he
                  replace hst := hid hst
                  go_wp2
                  go_roundw
                  case rel => (first | exact ⟨q + 1, by omega, by go_num, hst, X⟩ | ((repeat apply Exists.intro); exact ⟨⟨q + 1, by omega, by go_num, hst, X⟩, rfl⟩))
                  case measure => simp [intOf]; omega
              · have hin2 : inI rv b = false := by have := hin.out; rwa [inI_full hlq] at this
                have hnx := hb4.out hin2
                obtain rfl : q = rv.length := by omega
                replace hnx := hid hnx
                go_wp2
                go_roundw
                case rel => (first | exact ⟨k, _, by omega, rfl, rfl, hid hnx.out.symm, X.less (List.Sublist.refl _) fun r hr => .tail _ hr⟩ | ((repeat apply Exists.intro); exact ⟨⟨k, _, by omega, rfl, rfl, hid hnx.out.symm, X.less (List.Sublist.refl _) fun r hr => .tail _ hr⟩, rfl⟩))
                case measure => simp only [intOf]; omega
end Go.Proofs.YtjhmfljlclajnabDoor
