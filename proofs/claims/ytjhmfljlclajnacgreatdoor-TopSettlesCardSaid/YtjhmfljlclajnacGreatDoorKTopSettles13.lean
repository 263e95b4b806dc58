/- Parts of the proof: ComP SealA SealB SealC SealD Esc. -/
import Derived.Test.YtjhmfljlclajnacGreatDoorKTopSettles1
import Derived.Test.YtjhmfljlclajnacGreatDoorKTopSettles12
import Derived.Test.YtjhmfljlclajnacGreatDoorKTopSettles5
import Derived.Test.YtjhmfljlclajnacGreatDoorKTopSettles4
import Derived.Lib.SmallJoins
import Derived.Deep.CutBlock
import Derived.Deep.DeepCutAuto
import Derived.Deep.LoopGhost
import Derived.Test.YtjhmfljlclajnacGreatDoorUEnc
import Derived.Test.YtjhmfljlclajnacGreatDoorUShelf
import Derived.Test.YtjhmfljlclajnacGreatDoorUFit2
import Derived.Test.YtjhmfljlclajnacGreatDoorUPure2
import Derived.Test.YtjhmfljlclajnacGreatDoorURing
import Derived.Test.YtjhmfljlclajnacGreatDoorUPure
import Derived.Deep.RegionWith
set_option linter.unusedVariables false
set_option linter.unusedSimpArgs false
namespace Wb
open Go Go.RowKit
def logS (r : Ring) (t : Txn) (j : Nat) : List Stp := List.zipWith atW (places r.head j) ((logT t).take j)
theorem logS_zero (r : Ring) (t : Txn) : logS r t 0 = [] := rfl
theorem logS_succ {r : Ring} {t : Txn} {j : Nat} {s : ByteArray} (h : (logT t)[j]? = some s) : logS r t (j + 1) = logS r t j ++ [atW ((r.head + j) % 24) s] := by
 obtain ⟨hj, hs⟩ := List.getElem?_eq_some_iff.1 h
 unfold logS
 rw [places_succ, List.take_succ_eq_append_getElem hj, hs, List.zipWith_append (by rw [places_len, List.length_take]; omega)]
 rfl
theorem logS_len {r : Ring} {t : Txn} {j : Nat} (h : j ≤ (logT t).length) : (logS r t j).length = j := by
 unfold logS
 rw [List.length_zipWith, places_len, List.length_take]; omega
theorem logT_len (t : Txn) : (logT t).length = (bodyT t).length + 1 := by unfold logT; rw [List.length_append]; rfl
theorem logS_body (r : Ring) (t : Txn) : logS r t (bodyT t).length = List.zipWith atW (places r.head (bodyT t).length) (bodyT t) := by
 unfold logS logT
 rw [List.take_append_of_le_length (Nat.le_refl _), List.take_length]
def partJ (t : Txn) (k : Nat) : Nat := (revL t.seq t.rev).length + (if k = 0 then 0 else if k = 1 then (partL t.seq (t.mt.take 10)).length else (partL t.seq (t.mt.take 10)).length + (partL t.seq (t.mt.drop 10)).length)
def partM (t : Txn) (k : Nat) : List Cpy := (t.mt.drop (k * 10)).take 10
theorem revL_len (q : Int) (r : List Int) : (revL q r).length = if r = [] then 0 else 1 := by unfold revL; split <;> rfl
theorem partM0 (t : Txn) : partM t 0 = t.mt.take 10 := rfl
theorem partM1 {t : Txn} (h : t.mt.length ≤ 12) : partM t 1 = t.mt.drop 10 := by
 unfold partM
 rw [List.take_of_length_le (by rw [List.length_drop]; omega)]
theorem logT_rev {t : Txn} (h : t.rev ≠ []) : (logT t)[0]? = some (markS (listM t.seq t.rev)) := by
 unfold logT bodyT revL
 rw [if_neg h]; rfl
theorem logT_part {t : Txn} (hm : t.mt.length ≤ 12) {k i : Nat} (hk : k < 2) {s : ByteArray} (h : (partL t.seq (partM t k))[i]? = some s) : (logT t)[partJ t k + i]? = some s := by
 unfold logT bodyT partJ
 rw [List.getElem?_append_left]
 ·rw [Nat.add_assoc, List.getElem?_append_right (Nat.le_add_right _ _), Nat.add_sub_cancel_left]
  obtain rfl | rfl : k = 0 ∨ k = 1 := by omega
  ·rw [if_pos rfl, Nat.zero_add, ← partM0]
   rw [List.getElem?_append_left (List.getElem?_eq_some_iff.1 h).1]; exact h
  ·rw [if_neg (by decide), if_pos rfl, List.getElem?_append_right (Nat.le_add_right _ _), Nat.add_sub_cancel_left, ← partM1 hm]; exact h
 ·have := (List.getElem?_eq_some_iff.1 h).1
  rw [List.length_append, List.length_append]
  obtain rfl | rfl : k = 0 ∨ k = 1 := by omega
  ·rw [partM0] at this; rw [if_pos rfl]; omega
  ·rw [partM1 hm] at this; rw [if_neg (by decide), if_pos rfl]; omega
theorem partL_head {q : Int} {p : List Cpy} (h : p ≠ []) : (partL q p)[0]? = some (markS (descM q p)) := by unfold partL; rw [if_neg h]; rfl
theorem partL_copy {q : Int} {p : List Cpy} {i : Nat} (h : i < p.length) : (partL q p)[1 + i]? = some (escS p[i].text) := by
 unfold partL
 rw [if_neg (by intro e; subst e; exact absurd h (Nat.not_lt_zero _)), Nat.add_comm, List.getElem?_cons_succ, List.getElem?_map]
 simp [h]
theorem partJ_next {t : Txn} (hm : t.mt.length ≤ 12) {k : Nat} (hk : k * 10 < t.mt.length) : partJ t (k + 1) = partJ t k + (1 + (partM t k).length) := by
 have hk2 : k < 2 := by omega
 unfold partJ
 obtain rfl | rfl : k = 0 ∨ k = 1 := by omega
 ·rw [if_neg (by decide), if_pos rfl, if_pos rfl, partL_len, partM0, if_neg]
  ·omega
  ·intro h
   have := congrArg List.length h
   rw [List.length_take] at this
   rw [List.length_nil] at this; omega
 ·rw [if_neg (by decide), if_neg (by decide), if_neg (by decide), if_pos rfl, partL_len t.seq (t.mt.drop 10), partM1 hm, if_neg]
  ·omega
  ·intro h
   have := congrArg List.length h
   rw [List.length_drop] at this
   rw [List.length_nil] at this; omega
theorem partM_len {t : Txn} (k : Nat) : (partM t k).length = min 10 (t.mt.length - k * 10) := by unfold partM; rw [List.length_take, List.length_drop]
theorem bodyT_end {t : Txn} (hm : t.mt.length ≤ 12) : (bodyT t).length = partJ t (chunkN 10 t.mt.length) := by
 have h2 : (t.mt.drop 10 = []) ↔ t.mt.length ≤ 10 := by rw [← List.length_eq_zero_iff, List.length_drop]; omega
 have hc : chunkN 10 t.mt.length = if t.mt.length = 0 then 0 else if t.mt.length ≤ 10 then 1 else 2 := by
  unfold chunkN
  split
  ·omega
  ·split <;> omega
 rw [hc]
 unfold bodyT partJ
 rw [List.length_append, List.length_append]
 by_cases h0 : t.mt.length = 0
 ·rw [if_pos h0, if_pos rfl]
  have e : t.mt = [] := List.length_eq_zero_iff.1 h0
  rw [e]; rfl
 ·rw [if_neg h0]
  by_cases h1 : t.mt.length ≤ 10
  ·rw [if_pos h1, if_neg (by decide), if_pos rfl, h2.2 h1]
   have : (partL t.seq []).length = 0 := rfl
   rw [this]; omega
  ·rw [if_neg h1, if_neg (by decide), if_neg (by decide)]
theorem partJ_bound {t : Txn} (hm : t.mt.length ≤ 12) {k : Nat} (hk : k * 10 < t.mt.length) : partJ t k + (1 + (partM t k).length) ≤ (bodyT t).length := by
 rw [bodyT_end hm]
 have h1 := partJ_next hm hk
 have hc := fun j => chunkN_lt (n := 10) (len := t.mt.length) (k := j) (by decide)
 have hk1 := (hc k).2 hk
 have h2 := hc (k + 1)
 have h3 := hc (k + 2)
 by_cases hk2 : (k + 1) * 10 < t.mt.length
 ·have h4 := partJ_next hm hk2
  have : chunkN 10 t.mt.length = k + 1 + 1 := by omega
  rw [this, h4, h1]; omega
 ·have : chunkN 10 t.mt.length = k + 1 := by omega
  rw [this, h1]; omega
theorem partJ_low {t : Txn} (hm : t.mt.length ≤ 12) : partJ t 0 ≤ (bodyT t).length := by
 by_cases hz : 0 < t.mt.length
 ·have := partJ_bound hm (k := 0) (by omega); omega
 ·have : chunkN 10 t.mt.length = 0 := by unfold chunkN; omega
  rw [bodyT_end hm, this]; exact Nat.le_refl _
theorem dataS_len {t : Txn} (h : t.dt.length ≤ 12) : (dataS t).length ≤ 13 := by
 unfold dataS
 rw [List.length_append, List.length_map]
 have : (if t.dt = [] then ([] : List Stp) else [flushS]).length ≤ 1 := by split <;> simp
 omega
theorem comL_eq {r : Ring} {t : Txn} (h : comE r t = 0) : comL r t = dataS t ++ (logS r t (bodyT t).length ++ ((if (bodyT t).length = 0 then [] else [flushS]) ++ [atW ((r.head + ((bodyT t).length : Int)) % 24) (markS (comM t.seq)), flushS])) := by
 unfold comL
 rw [if_pos h, logS_body]
 congr 3
 by_cases hz : bodyT t = []
 ·rw [if_pos hz, if_pos (by rw [hz]; rfl)]
 ·rw [if_neg hz, if_neg (by rw [List.length_eq_zero_iff]; exact hz)]
theorem dataS_eq (t : Txn) : t.dt.map goS ++ (if 0 < t.dt.length then [flushS] else []) = dataS t := by
 unfold dataS
 congr 1
 by_cases h : t.dt = []
 ·rw [if_pos h, if_neg (by rw [h]; decide)]
 ·rw [if_neg h, if_pos (List.length_pos_iff.2 h)]
structure ComF (r : Ring) (t : Txn) (nb : Nat) (DS : List Stp) (LS : Nat → List Stp) (pj : Nat → Nat) (pm : Nat → List Cpy) : Prop where
 l0 : LS 0 = []
 lr : t.rev ≠ [] → LS 1 = LS 0 ++ [atW ((r.head + ((0 : Nat) : Int)) % 24) (markS (listM t.seq t.rev))]
 lp : ∀ k, k * 10 < t.mt.length → ∀ i s, (partL t.seq (pm k))[i]? = some s → LS (pj k + i + 1) = LS (pj k + i) ++ [atW ((r.head + ((pj k + i : Nat) : Int)) % 24) s]
 j0 : pj 0 = (revL t.seq t.rev).length
 jn : ∀ k, k * 10 < t.mt.length → pj (k + 1) = pj k + (1 + (pm k).length)
 je : nb = pj (chunkN 10 t.mt.length)
 ml : ∀ k, (pm k).length = min 10 (t.mt.length - k * 10)
 md : ∀ k, pm k = (t.mt.drop (k * 10)).take 10
 ll : ∀ j, j ≤ nb + 1 → (LS j).length = j
 dl : DS.length ≤ 13
 cd : comL r t = DS ++ (LS nb ++ ((if nb = 0 then [] else [flushS]) ++ [atW ((r.head + (nb : Int)) % 24) (markS (comM t.seq)), flushS]))
 ds : t.dt.map goS ++ (if 0 < t.dt.length then [flushS] else []) = DS
 bk : ∀ k, k * 10 < t.mt.length → pj k + (1 + (pm k).length) ≤ nb
 b0 : pj 0 ≤ nb
theorem comF {r : Ring} {t : Txn} (hm : t.mt.length ≤ 12) (hd : t.dt.length ≤ 12) (hc : comE r t = 0) : ∃ DS LS pj pm, ComF r t (bodyT t).length DS LS pj pm :=
 ⟨dataS t, logS r t, partJ t, partM t, logS_zero r t, fun h => logS_succ (j := 0) (logT_rev h), fun k hk i s hs => logS_succ (logT_part hm (by omega) hs), rfl, fun k hk => partJ_next hm hk, bodyT_end hm, partM_len, fun _ => rfl,
  fun j hj => logS_len (by rw [logT_len]; exact hj), dataS_len hd, comL_eq hc, dataS_eq t, fun k hk => partJ_bound hm hk, partJ_low hm⟩
end Wb
namespace Go.Proofs.YtjhmfljlclajnacGreatDoor
open Go.RowKit Wb
set_option maxRecDepth 100000
set_option maxHeartbeats 8000000
theorem seal_write (p : Int) (s : ByteArray) (w : World) :
    Calls Tryz.prog 117 #[.int .i64 p, .string s] w fun e w' => e = .returned (.agg #[.int .i64 1, .int .i64 p, .string s]) ∧ Below w.heap.size w w' := by
 have X := St.start [] w
 go_enter Tryz.func117, Tryz.ntmps117
 go_wp2_with (first
  | (refine ZcL ?_) | (refine ZcS ?_; clear X; intro w X) | (refine ZcA ?_; clear X; intro g w X))
 exact m_ret1 rfl (.tmp rfl rfl) X (.head _) rfl rfl ⟨rfl, X.below⟩
end Go.Proofs.YtjhmfljlclajnacGreatDoor
namespace Wb
open Go Go.RowKit
theorem back_rev {l : List Txn} (hg : ∀ t ∈ l, goodT t = true) {j : Nat} (hj : j < l.length) {b : Int} (h : inI l[j].rev b = true) : newestB (l.take (j + 1)) b = none := by
 rw [List.take_succ_eq_append_getElem hj, newestB_back]
 have g := hg _ (List.getElem_mem hj)
 have h1 : getC l[j].mt b = none := by
  cases hc : getC l[j].mt b with
  | none => rfl
  | some s =>
   exfalso
   have h2 : hasB l[j].mt b = true := by rw [hasB_get, hc]; rfl
   obtain ⟨c, hc1, hc2⟩ := List.any_eq_true.1 h2
   obtain ⟨k, hk, rfl⟩ := List.mem_iff_getElem.1 hc1
   have := (good_meta g hk).1
   rw [beq_iff_eq.1 hc2, h] at this
   cases this
 rw [h1, h]
 rfl
theorem back_get {l : List Txn} {j : Nat} (hj : j < l.length) {b : Int} {s : ByteArray} (h : getC l[j].mt b = some s) : newestB (l.take (j + 1)) b = some s := by
 rw [List.take_succ_eq_append_getElem hj, newestB_back, h]
theorem back_no {l : List Txn} {j : Nat} (hj : j < l.length) {b : Int} (h1 : inI l[j].rev b = false) (h : getC l[j].mt b = none) : newestB (l.take (j + 1)) b = newestB (l.take j) b := by
 rw [List.take_succ_eq_append_getElem hj, newestB_back, h, h1]
 rfl
theorem viewN_none {f : Int → Option ByteArray} {n : Nat} (h : f n = none) : viewN f (n + 1) = viewN f n := by rw [viewN_succ, h]; simp
theorem viewN_some {f : Int → Option ByteArray} {n : Nat} {s : ByteArray} (h : f n = some s) : viewN f (n + 1) = viewN f n ++ [⟨n, s⟩] := by rw [viewN_succ, h]; rfl
theorem OwnM.own {α : Type} {f : α → List Value} {e : TypeId} {c : Nat} {v : Value} {l : List α} {M L T : List Ent} {w0 w : World} {R : List Rd} (hF : Flat f c) (h : OwnM f e c v l M) (X : St [] w0 w (L ++ (M ++ T)) R) : Own f w0.heap.size e c w v l := by
 rcases h with ⟨rfl, rfl, rfl⟩ | ⟨g, cap, rest, rfl, h1, h2, h3, rfl⟩
 ·exact Own.nil _ _ _ _ _
 ·have hk := X.blk ⟨g, l.flatMap f ++ rest, e⟩ (by simp)
  have ho := X.own ⟨g, l.flatMap f ++ rest, e⟩ (by simp)
  refine ⟨flat_len hF.len l, .inr ⟨g, cap, _, rfl, ho.resolve_left (fun h => by cases h), hk, h1, h2, ?_, ?_⟩⟩
  ·simpa using h3
  ·rw [← flat_len hF.len l]; simp
end Wb
namespace Go.Proofs.YtjhmfljlclajnacGreatDoor
open Go.RowKit Wb
set_option maxRecDepth 100000
set_option maxHeartbeats 8000000
theorem seal_Newest (l : List Txn) (hg : ∀ t ∈ l, goodT t = true) (v : Value) (w : World) (h : RTxns w v l) :
    Calls Tryz.prog 82 #[v] w fun e w' => ∃ v', e = .returned v' ∧ Wb.Own cpyC w.heap.size 92 2 w' v' (newestL l) ∧ Below w.heap.size w w' := by
 obtain ⟨a, cap, rfl, hl⟩ := h.form
 have hbr := fun j (hj : j < l.length) b => back_rev hg hj (b := b)
 have hbg := fun j (hj : j < l.length) b s => back_get (l := l) hj (b := b) (s := s)
 have hbn := fun j (hj : j < l.length) b => back_no (l := l) hj (b := b)
 have hvn := fun k => viewN_none (f := newestB l) (n := k)
 have hvs := fun k s => viewN_some (f := newestB l) (n := k) (s := s)
 have hvl := fun k => viewN_len (newestB l) k
 have hz : ∀ b, newestB (l.take 0) b = none := fun b => rfl
 have hfu : l.take l.length = l := List.take_length
 have hrl := fun k (hk : k < l.length) => lens (goodT_of.1 (hg _ (List.getElem_mem hk)))
 have hnl : newestL l = viewN (newestB l) 12 := rfl
 have hv0 : viewN (newestB l) 0 = [] := rfl
 rw [hnl]
 replace h := hid h; replace hbr := hid hbr; replace hbg := hid hbg; replace hbn := hid hbn; replace hvn := hid hvn; replace hvs := hid hvs; replace hvl := hid hvl; replace hz := hid hz; replace hfu := hid hfu; replace hrl := hid hrl; replace hv0 := hid hv0
 clear hnl hg
 go_enter Tryz.func82, Tryz.ntmps82
 go_wp2
 go_loopw [3, 8] (fun o i wr => ∃ (k : Nat) (M : List Ent), k ≤ 12 ∧ i = .int .i64 k ∧ OwnM cpyC 92 2 o (viewN (newestB l) k) M ∧ St [] w wr (M ++ []) []) (fun _ i _ => 12 - (intOf i).toNat)
 case atStart => exact ⟨0, [], by decide, rfl, by rw [hv0.out]; exact OwnM.nil _ _ _, St.start [] w⟩
 case round =>
  obtain ⟨k, M, hk, rfl, hO, X⟩ := hrel
  by_cases hlt : k < 12
  ·have hvk := hvl.out k
   have hk12 : (k : Int) < 12 := by omega
   obtain ⟨ao, co, rfl⟩ := hO.form
   go_upto_block 1 with fail
   go_cut [3] (fun o wx => ∃ M, OwnM cpyC 92 2 o (viewN (newestB l) (k + 1)) M ∧ St [] w wx (M ++ []) [])
   case first =>
    go_wp2
    go_loopw [3, 5] (fun o i wr => ∃ j : Nat, j ≤ l.length ∧ i = .int .i64 ((j : Int) - 1) ∧ o = .slice ao (viewN (newestB l) k).length co ∧ Hid (newestB l k = newestB (l.take j) k) ∧ St [] w wr (M ++ []) []) (fun _ i _ => (intOf i + 1).toNat)
    case atStart => exact ⟨l.length, Nat.le_refl _, rfl, rfl, hid (by rw [hfu.out]), X⟩
    case round =>
     clear X
     obtain ⟨j, hj, rfl, rfl, hnw, X⟩ := hrel
     rcases Nat.eq_zero_or_pos j with hj0 | hj0
     ·subst hj0
      have hn := hnw.out.trans (hz.out k)
      replace hn := hid hn
      go_wp2
      go_meet
      exact ⟨M, by rw [hvn.out _ hn.out]; exact hO, X⟩
     ·obtain ⟨i, rfl⟩ : ∃ i, j = i + 1 := ⟨j - 1, by omega⟩
      have hi : i < l.length := by omega
      obtain ⟨b1, o1, am, cm, ad, cd, ar, cr, rfl, hrt, c0, c1, c2, c3, c4, c5, c6, c7, c8, c9⟩ := (h.out.below X.below).at3 hi
      obtain ⟨vm', vd', vr', hv, hm, hd, hr, n1, n2, n3⟩ := hrt
      simp only [txnV, Value.agg.injEq, Array.mk.injEq, List.cons.injEq, and_true, true_and] at hv
      obtain ⟨rfl, rfl, rfl⟩ := hv
      have hb1 := hbr.out i hi k
      have hb2 := hbg.out i hi k
      have hb3 := hbn.out i hi k
      rw [← hnw.out] at hb1 hb2 hb3
      generalize l[i] = t at *
      have hC := fun w' (hb : Below wr.heap.size wr w') => slices_ContainsI t.rev k _ w' (hr.below hb) (by omega)
      have hG := fun w' (hb : Below wr.heap.size wr w') => txn_Get t.mt k _ w' (hm.below hb) (by omega)
      replace hb1 := hid hb1; replace hb2 := hid hb2; replace hb3 := hid hb3; replace hm := hid hm; replace hr := hid hr; replace hC := hid hC; replace hG := hid hG
      cases hB : inI t.rev k with
      | true =>
       have hn := hb1.out hB
       rw [hB] at hC
       clear hB
       replace hn := hid hn
       go_wp2_with (first
        | (go_at_call 125; go_loud ((with_reducible refine (hC.out _ (b0 _)).mono ?_); rintro e w1 ⟨rfl, rfl⟩)))
       go_meet
       exact ⟨M, by rw [hvn.out _ hn.out]; exact hO, X⟩
      | false =>
       have hb3 := hb3.out hB
       rw [hB] at hC
       clear hB
       cases hT : getC t.mt k with
       | none =>
        have hn := hb3 hT
        rw [hT] at hG
        clear hT hb3
        replace hn := hid hn
        go_wp2_with (first
         | (go_at_call 125; go_loud ((with_reducible refine (hC.out _ (b0 _)).mono ?_); rintro e w1 ⟨rfl, rfl⟩))
         | (go_at_call 83; go_loud ((with_reducible refine (hG.out _ (b0 _)).mono ?_); rintro e w1 ⟨rfl, hb1⟩; replace X := X.call hb1; clear hb1)))
        go_roundw
        case rel => (first | exact ⟨i, by omega, by go_num, rfl, hn, X⟩ | ((repeat apply Exists.intro); exact ⟨⟨i, by omega, by go_num, rfl, hn, X⟩, rfl⟩))
        case measure => simp [intOf]
       | some s =>
        have hn := hb2.out s hT
        rw [hT] at hG
        clear hT hb3
        replace hn := hid hn
        have hy : [(⟨k, s⟩ : Cpy)].flatMap cpyC = [.int .i64 k, .string s] := rfl
        go_wp2_with (first
         | (go_at_call 125; go_loud ((with_reducible refine (hC.out _ (b0 _)).mono ?_); rintro e w1 ⟨rfl, rfl⟩))
         | (go_at_call 83; go_loud ((with_reducible refine (hG.out _ (b0 _)).mono ?_); rintro e w1 ⟨rfl, hb1⟩; replace X := X.call hb1; clear hb1))
         | (refine at_build rfl ?_; go_loud (refine m_build1 rfl rfl Zev (by rfl) (by rfl) X ?_; intro g w2 X2; replace X := X2; clear X2; (simp only [Act.put, zA, zB, zC, zD, zE, zF, zG, Nat.reduceAdd])))
         | (at_builtin; go_loud ((refine m_app (M := M) (T := []) (n := 1) [] rfl rfl [⟨k, s⟩] cpyC_flat X hO Zev Zev hy rfl (by omega) ?_); intro a2 c2 w2 M2 hO2 X2; (simp only [Act.put, zA, zB, zC, zD, zE, zF, zG, Nat.reduceAdd]))))
        go_meet
        exact ⟨M2, by rw [hvs.out _ _ hn.out]; exact hO2, X2⟩
   case rest =>
    obtain ⟨M, hO, X⟩ := hcut
    go_wp2
    go_roundw
    case rel => exact ⟨k + 1, M, by omega, by go_num, hO, X⟩
    case measure => simp [intOf]; omega
  ·obtain rfl : k = 12 := by omega
   go_wp2
   go_ret
   exact ⟨_, rfl, hO.own (L := []) cpyC_flat X, X.below⟩
end Go.Proofs.YtjhmfljlclajnacGreatDoor
namespace Wb
open Go Go.RowKit
theorem superM_read (w : World) (q p : Int) : RMark w (.agg #[.int .i64 1, .int .i64 q, .int .i64 p, .slice none 0 0, .slice none 0 0]) (superM q p) :=
 ⟨_, _, rfl, RL.nil _ _, RL.nil _ _, Nat.zero_le _, Nat.zero_le _⟩
theorem checkE_bad {l : List Cpy} {p q : Int} (h : markE (superM q p) ≠ 0) : checkE l p q = markE (superM q p) ∧ checkL l p q = [] := by
 have e : checkE l p q = markE (superM q p) := by unfold checkE; rw [if_pos h]
 exact ⟨e, by unfold checkL; rw [e, if_neg h]⟩
theorem checkE_form {l : List Cpy} {p q : Int} (h : markE (superM q p) = 0) {k : Nat} (hk : k < l.length) (hc : cpyOk l[k] = false) : checkE l p q = 1 ∧ checkL l p q = [] := by
 have hn : ¬ l.all cpyOk = true := fun hh => by
  have := List.all_eq_true.1 hh _ (List.getElem_mem hk)
  rw [hc] at this; cases this
 have e : checkE l p q = 1 := by unfold checkE; rw [if_neg (by rw [h]; decide), if_neg hn]
 exact ⟨e, by unfold checkL; rw [e, if_neg (by decide)]⟩
theorem checkE_ok {l : List Cpy} {p q : Int} (h : markE (superM q p) = 0) (hc : l.all cpyOk = true) : checkE l p q = 0 ∧ checkL l p q = homeS l ++ [wrS 0 (markS (superM q p)), flushS] := by
 have e : checkE l p q = 0 := by unfold checkE; rw [if_neg (by rw [h]; decide), if_pos hc]
 exact ⟨e, by unfold checkL; rw [if_pos e]⟩
theorem all_take {α : Type} {p : α → Bool} {l : List α} {k : Nat} (hk : k < l.length) (h : (l.take k).all p = true) (hc : p l[k] = true) : (l.take (k + 1)).all p = true := by
 rw [List.take_succ_eq_append_getElem hk, List.all_append, h]
 simp [hc]
theorem map_take {α β : Type} {f : α → β} {l : List α} {k : Nat} (hk : k < l.length) : (l.take (k + 1)).map f = (l.take k).map f ++ [f l[k]] := by
 rw [List.take_succ_eq_append_getElem hk, List.map_append]; rfl
theorem room2 {n m : Nat} (h : n = m) (hm : m ≤ 6000000000000) : (n + 2 + (n + 2) / 4 + 192) * 32 ≤ 281474976710656 ∧ n + 2 ≤ 140737488355328 := by subst h; omega
theorem cpyOk_iff (c : Cpy) : cpyOk c = true ↔ (0 ≤ c.block ∧ c.block < 12) ∧ c.text.size = 32 := by
 unfold cpyOk isBlk ok32; simp
end Wb
namespace Go.Proofs.YtjhmfljlclajnacGreatDoor
open Go.RowKit Wb
set_option maxRecDepth 100000
set_option maxHeartbeats 8000000
theorem seal_Check (l : List Cpy) (p q : Int) (v : Value) (w : World) (h : RL cpyC w v l) (hl : l.length ≤ 5864062014805) (hF : Sl w (flR 0).v 1 (flR 0).cs) :
    Calls Tryz.prog 76 #[v, .int .i64 p, .int .i64 q] w fun e w' => ∃ v', e = .returned (.tuple #[v', .int .i64 (checkE l p q)]) ∧ Wb.Own stpC w.heap.size 127 3 w' v' (checkL l p q) ∧ Below w.heap.size w w' := by
 obtain ⟨a, cap, rfl, _⟩ := h.form
 have hE := fun w => stamp_Encode (superM q p) _ w (superM_read w q p)
 have hW := fun x s w => seal_write x s w
 have X : St [] w w [] [flR 0] := (St.start [] w).addR0 hF
 replace hE := hid hE; replace hW := hid hW
 by_cases hM : markE (superM q p) = 0
 ·rw [hM] at hE
  have hbad := fun k (hk : k < l.length) (hc : cpyOk l[k] = false) => checkE_form hM hk hc
  have hok := fun (hc : l.all cpyOk = true) => checkE_ok hM hc
  have hat := fun k (hk : k < l.length) (h : (l.take k).all cpyOk = true) (hc : cpyOk l[k] = true) => all_take hk h hc
  have hmt := fun k (hk : k < l.length) => map_take (f := goS) hk
  have hfu : l.take l.length = l := List.take_length
  have hho : homeS l = l.map goS ++ (if l = [] then [] else [flushS]) := rfl
  have hnil : (l = []) ↔ l.length = 0 := List.length_eq_zero_iff.symm
  rw [hho] at hok
  generalize checkE l p q = E at *
  generalize checkL l p q = C at *
  generalize markS (superM q p) = ms at *
  replace h := hid h; replace hbad := hid hbad; replace hok := hid hok; replace hat := hid hat; replace hmt := hid hmt; replace hfu := hid hfu; replace hnil := hid hnil
  clear hho hM hF
  go_enter Tryz.func76, Tryz.ntmps76
  go_wp2_with (first
   | (go_at_call 61; go_loud ((with_reducible refine (hE.out _).mono ?_); rintro e w1 ⟨rfl, hb1⟩; replace X := X.call hb1; clear hb1)))
  go_loopw [10, 25] (fun o i wr => ∃ (k : Nat) (M : List Ent), k ≤ l.length ∧ i = .int .i64 k ∧ Hid ((l.take k).all cpyOk = true) ∧ OwnM stpC 127 3 o ((l.take k).map goS) M ∧ St [] w wr (M ++ []) [flR 0]) (fun _ i _ => l.length - (intOf i).toNat)
  case atStart => exact ⟨0, [], Nat.zero_le _, rfl, hid rfl, OwnM.nil _ _ _, X⟩
  case round =>
   clear X
   obtain ⟨k, M, hk, rfl, hal, hO, X⟩ := hrel
   have hlk : ((l.take k).map goS).length = k := by rw [List.length_map, List.length_take]; omega
   obtain ⟨ao, co, rfl⟩ := hO.form
   rw [hlk] at hO ⊢
   by_cases hlt : k < l.length
   ·obtain ⟨b1, o1, rfl, c0, c1⟩ := RL.at2 (fun x => .int .i64 x.block) (fun x => .string x.text) (fun _ => rfl) (h.out.below X.below) hlt
    have hb := hbad.out k hlt
    have ha := hat.out k hlt hal.out
    have hm := hmt.out k hlt
    generalize l[k] = x at *
    generalize (l.take k).map goS = ls at *
    obtain ⟨xb, xt⟩ := x
    dsimp only at *
    have hci := cpyOk_iff ⟨xb, xt⟩
    dsimp only at hci
    cases hc : cpyOk ⟨xb, xt⟩ with
    | true =>
     obtain ⟨⟨y0, y1⟩, y2⟩ := hci.1 hc
     have ha := ha hc
     replace ha := hid ha; replace hm := hid hm
     have y3 : ((xt.size : Int) != 32) = false := by rw [y2]; rfl
     have d1 : decide (xb < 0) = false := decide_eq_false (by omega)
     have d2 : decide (12 ≤ xb) = false := decide_eq_false (by omega)
     clear hci hc hb
     have hr1 : (ls.length + 1 + (ls.length + 1) / 4 + 192) * 32 ≤ 281474976710656 := by omega
     have hr2 : ls.length + 1 ≤ 140737488355328 := by omega
     have hgo : [goS ⟨xb, xt⟩].flatMap stpC = [.int .i64 1, .int .i64 (25 + xb), .string xt] := rfl
     go_wp2_with (first
      | (refine ZcL ?_) | (refine ZcS ?_; clear X; intro w X) | (refine ZcA ?_; clear X; intro g w X)
      | (go_at_call 117; go_loud ((with_reducible refine (hW.out _ _ _).mono ?_); rintro e w1 ⟨rfl, hb1⟩; replace X := X.call hb1; clear hb1))
      | (refine at_build rfl ?_; go_loud (refine m_build1 rfl rfl Zev (by rfl) (by rfl) X ?_; intro g w2 X2; replace X := X2; clear X2; (simp only [Act.put, zA, zB, zC, zD, zE, zF, zG, Nat.reduceAdd])))
      | (at_builtin; go_loud ((refine m_appB (M := M) (T := []) (n := 1) [_] rfl rfl [goS ⟨xb, xt⟩] stpC_flat X hO Zev Zev hgo rfl hr1 hr2 ?_); intro a2 c2 w2 M2 hO2 X2; (simp only [Act.put, zA, zB, zC, zD, zE, zF, zG, Nat.reduceAdd]))))
     rw [hlk]
     go_roundw
     case rel => exact ⟨k + 1, M2, by omega, by go_num, ha, by rw [hm.out, ← hlk]; exact hO2, X2.tail⟩
     case measure => simp [intOf]; omega
    | false =>
     obtain ⟨e1, e2⟩ := hb hc
     subst e1 e2
     have hn : ¬ ((0 ≤ xb ∧ xb < 12) ∧ xt.size = 32) := fun h => by rw [hci.2 h] at hc; cases hc
     clear hci hc hb ha hm
     by_cases z1 : xb < 0
     ·have d1 : decide (xb < 0) = true := decide_eq_true z1
      go_wp2_with (first
       | (refine ZcL ?_) | (refine ZcS ?_; clear X; intro w X) | (refine ZcA ?_; clear X; intro g w X))
      go_ret2
      exact ⟨_, rfl, Own.nil _ _ _ _ _, X.below⟩
     ·have d1 : decide (xb < 0) = false := decide_eq_false z1
      by_cases z2 : 12 ≤ xb
      ·have d2 : decide (12 ≤ xb) = true := decide_eq_true z2
       go_wp2_with (first
        | (refine ZcL ?_) | (refine ZcS ?_; clear X; intro w X) | (refine ZcA ?_; clear X; intro g w X))
       go_ret2
       exact ⟨_, rfl, Own.nil _ _ _ _ _, X.below⟩
      ·have d2 : decide (12 ≤ xb) = false := decide_eq_false z2
       have y3 : ((xt.size : Int) != 32) = true := bne_iff_ne.2 (fun h => hn ⟨by omega, by omega⟩)
       clear hn
       go_wp2_with (first
        | (refine ZcL ?_) | (refine ZcS ?_; clear X; intro w X) | (refine ZcA ?_; clear X; intro g w X))
       go_ret2
       exact ⟨_, rfl, Own.nil _ _ _ _ _, X.below⟩
   ·have hkl : k = l.length := by omega
    have hts : l.take k = l := by rw [hkl, List.take_length]
    obtain ⟨e1, e2⟩ := hok.out (by rw [← hts]; exact hal.out)
    have e3 : C = (l.take k).map goS ++ (if k = 0 then [] else [flushS]) ++ [wrS 0 ms, flushS] := by
     rw [e2, hts]
     by_cases hz : l = []
     ·rw [if_pos hz, if_pos (by rw [hkl]; exact hnil.out.1 hz)]
     ·rw [if_neg hz, if_neg (fun h => hz (hnil.out.2 (by omega)))]
    clear hal hbad hok hat hmt e2 hts hnil hfu
    generalize (l.take k).map goS = ls at *
    have hfl : [wrS 0 ms, flushS].flatMap stpC = [.int .i64 1, .int .i64 0, .string ms, .int .i64 2, .int .i64 0, .string ⟨#[]⟩] := rfl
    have hli : ((k : Int) < (l.length : Int)) = False := eq_false (by omega)
    by_cases hz : k = 0
    ·rw [if_pos hz] at e3
     have hzi : decide (0 < k) = false := decide_eq_false (by omega)
     have hr3 : (ls.length + 2 + (ls.length + 2) / 4 + 192) * 32 ≤ 281474976710656 := by omega
     have hr4 : ls.length + 2 ≤ 140737488355328 := by omega
     clear hz
     replace e3 := hid e3
     replace hkl := hid hkl
     go_wp2
     (refine q_startS 0 [] [2, 4, 5] [3] [0, 1, 3, 2, 4, 5, 6, 7] X ?_; clear X; intro hQ X hL; simp only [zF, zG] at hL; simp only [zF, zG])
     (refine Zm ?_)
     (refine Zm ?_)
     (refine q_rd0 rfl rfl rfl Zfl (by rfl) rfl rfl X hL hQ ?_; (simp only [Act.put, zA, zB, zC, zD, zE, zF, zG, Nat.reduceAdd]))
     (refine q_callS 117 Tryz.func117 (hW.out _ _ _) ?_; rintro e w1 ⟨rfl, hb1⟩; replace X := X.call hb1; clear hb1; refine Zce ?_; clear hL; intro hL)
     (refine q_build2 rfl rfl Zev Zev (by rfl) (by rfl) (by rfl) (by rfl) X hL rfl rfl ?_; intro g w X2 hL2; (try simp only [List.cons_append, List.nil_append] at X2 hL2); replace X := X2; replace hL := hL2; clear X2 hL2; (simp only [Act.put, zA, zB, zC, zD, zE, zF, zG, Nat.reduceAdd]))
     (refine q_appB (M := M) (T := []) (n := 2) [] rfl rfl [wrS 0 ms, flushS] stpC_flat X hO Zev Zev hfl rfl hr3 hr4 hL (List.nil_sublist _) rfl rfl ?_; intro a3 c3 w3 M3 hO3 X3 hL3; replace X := X3; replace hL := hL3; clear X3 hL3; (simp only [Act.put, zA, zB, zC, zD, zE, zF, zG, Nat.reduceAdd]))
     (refine Za ?_)
     (refine Za ?_)
     refine q_nil ?_
     go_wp2
     go_ret2
     subst e1
     exact ⟨_, rfl, by rw [e3.out, List.append_nil]; exact hO3.own (L := []) stpC_flat X, X.below⟩
    ·rw [if_neg hz] at e3
     have hzi : decide (0 < k) = true := decide_eq_true (by omega)
     have hr1 : (ls.length + 1 + (ls.length + 1) / 4 + 192) * 32 ≤ 281474976710656 := by omega
     have hr2 : ls.length + 1 ≤ 140737488355328 := by omega
     have hlf : (ls ++ [flushS]).length = k + 1 := by rw [List.length_append, hlk]; rfl
     obtain ⟨hr3, hr4⟩ := room2 hlf (by omega)
     have hgo : [flushS].flatMap stpC = [.int .i64 2, .int .i64 0, .string ⟨#[]⟩] := rfl
     clear hz hlf
     replace e3 := hid e3
     replace hkl := hid hkl
     go_wp2_with (first
      | (refine at_mem rfl ?_; refine m_rd0 rfl rfl rfl X Zfl (by rfl) ?_; (simp only [Act.put, zA, zB, zC, zD, zE, zF, zG, Nat.reduceAdd]))
      | (refine at_build rfl ?_; go_loud (refine m_build1 rfl rfl Zev (by rfl) (by rfl) X ?_; intro g w2 X2; replace X := X2; clear X2; (simp only [Act.put, zA, zB, zC, zD, zE, zF, zG, Nat.reduceAdd])))
      | (at_builtin; go_loud ((refine m_appB (M := M) (T := []) (n := 1) [] rfl rfl [flushS] stpC_flat X hO Zev Zev hgo rfl hr1 hr2 ?_); intro a2 c2 w2 M2 hO2 X2; replace X := X2; clear X2; (simp only [Act.put, zA, zB, zC, zD, zE, zF, zG, Nat.reduceAdd]))))
     (refine q_startS 0 [] [2, 4, 5] [3] [0, 1, 3, 2, 4, 5, 6, 7] X ?_; clear X; intro hQ X hL; simp only [zF, zG] at hL; simp only [zF, zG])
     (refine Zm ?_)
     (refine Zm ?_)
     (refine q_rd0 rfl rfl rfl Zfl (by rfl) rfl rfl X hL hQ ?_; (simp only [Act.put, zA, zB, zC, zD, zE, zF, zG, Nat.reduceAdd]))
     (refine q_callS 117 Tryz.func117 (hW.out _ _ _) ?_; rintro e w1 ⟨rfl, hb1⟩; replace X := X.call hb1; clear hb1; refine Zce ?_; clear hL; intro hL)
     (refine q_build2 rfl rfl Zev Zev (by rfl) (by rfl) (by rfl) (by rfl) X hL rfl rfl ?_; intro g w X2 hL2; (try simp only [List.cons_append, List.nil_append] at X2 hL2); replace X := X2; replace hL := hL2; clear X2 hL2; (simp only [Act.put, zA, zB, zC, zD, zE, zF, zG, Nat.reduceAdd]))
     (refine q_appB (M := M2) (T := []) (n := 2) [] rfl rfl [wrS 0 ms, flushS] stpC_flat X hO2 Zev Zev hfl rfl hr3 hr4 hL (List.nil_sublist _) rfl rfl ?_; intro a3 c3 w3 M3 hO3 X3 hL3; replace X := X3; replace hL := hL3; clear X3 hL3; (simp only [Act.put, zA, zB, zC, zD, zE, zF, zG, Nat.reduceAdd]))
     (refine Za ?_)
     (refine Za ?_)
     refine q_nil ?_
     go_wp2
     go_ret2
     subst e1
     exact ⟨_, rfl, by rw [e3.out]; exact hO3.own (L := []) stpC_flat X, X.below⟩
 ·obtain ⟨e1, e2⟩ := checkE_bad (l := l) hM
  rw [e1, e2]
  generalize markE (superM q p) = E at *
  have hne : (E != 0) = true := bne_iff_ne.2 hM
  clear hF h
  go_enter Tryz.func76, Tryz.ntmps76
  go_wp2_with (first
   | (go_at_call 61; go_loud ((with_reducible refine (hE.out _).mono ?_); rintro e w1 ⟨rfl, hb1⟩; replace X := X.call hb1; clear hb1)))
  go_ret2
  exact ⟨_, rfl, Own.nil _ _ _ _ _, X.below⟩
theorem seal_log (s : ByteArray) (p : Int) (hp : 0 ≤ p ∧ p < 24) {S : List Nat} {w0 w : World} {A M T : List Ent} {R : List Rd} {g12 g10 ga k m c n n' cap : Nat} {cs : List Value} {v : Value} {l : List Stp}
    (X : St S w0 w (⟨g12, [v], 59⟩ :: ⟨g10, [.slice (some ⟨ga, k, none⟩) m c], 35⟩ :: (A ++ (M ++ T))) R) (hO : OwnM stpC 127 3 v l M) (hR : ⟨.slice (some ⟨ga, 0, none⟩) n' cap, n, cs⟩ ∈ R) (hk : cs[k]? = some (.int .i64 p)) (hm : 0 < m) (hmc : m ≤ c) (hl : l.length ≤ 1000) :
    Calls Tryz.prog 120 #[.string s, .pointer (some ⟨g12, 0, none⟩), .pointer (some ⟨g10, 0, none⟩)] w fun e w' => ∃ u v' at' M', e = .returned u ∧ OwnM stpC 127 3 v' (l ++ [atW p s]) M' ∧ (1 < m → at' = .slice (some ⟨ga, k + 1, none⟩) (m - 1) (c - 1)) ∧
      St S w0 w' (⟨g12, [v'], 59⟩ :: ⟨g10, [at'], 35⟩ :: (A ++ (M' ++ T))) R := by
 obtain ⟨hp0, hp1⟩ := hp
 have hW := fun x s w => seal_write x s w
 have hgo : [atW p s].flatMap stpC = [.int .i64 1, .int .i64 (1 + p), .string s] := rfl
 have h40 : l.length + 1 ≤ 1099511627776 := by omega
 obtain ⟨ao, co, rfl⟩ := hO.form
 have m1 : 1 ≤ m := hm
 have c1 : 1 ≤ c := by omega
 have hwr : IntKind.i64.wrap (1 + p) = 1 + p := IntWalk.i64_in _ (by omega)
 replace hW := hid hW
 go_enter Tryz.func120, Tryz.ntmps120
 go_wp2
 (refine q_startS 2 [9] [6, 7, 8, 9] [0, 1, 3] [0, 1, 2, 3, 4, 5, 6, 7, 8, 9] X ?_; clear X; intro hQ X hL; simp only [zF, zG] at hL; simp only [zF, zG])
 (refine Zl ?_)
 (refine Zl ?_)
 (refine Zg ?_)
 (refine q_cell0 rfl rfl Zev hR hk rfl rfl X hL hQ ?_; (simp only [Act.put, zA, zB, zC, zD, zE, zF, zG, Nat.reduceAdd]))
 (refine Zg ?_)
 (refine Zm ?_)
 (refine q_callS 117 Tryz.func117 (hW.out _ _ _) ?_; rintro e w1 ⟨rfl, hb1⟩; replace X := X.call hb1; clear hb1; refine Zce ?_; clear hL; intro hL)
 (refine q_build1 rfl rfl Zev (by rfl) (by rfl) X hL rfl rfl ?_; intro g w X2 hL2; replace X := X2; replace hL := hL2; clear X2 hL2; (simp only [Act.put, zA, zB, zC, zD, zE, zF, zG, Nat.reduceAdd]))
 (refine q_app (M := M) (T := T) (n := 1) (_ :: _ :: A) rfl rfl [atW p s] stpC_flat X hO Zev Zev hgo rfl h40 hL (.cons_cons _ (.cons_cons _ (List.nil_sublist _))) rfl rfl ?_; intro a2 c2 w2 M2 hO2 X2 hL2; replace X := X2; replace hL := hL2; clear X2 hL2; (simp only [Act.put, zA, zB, zC, zD, zE, zF, zG, Nat.reduceAdd]))
 (refine Zb ?_; clear X; intro w X)
 refine q_nil ?_
 go_wp2_with (first
  | (refine ZcL ?_) | (refine ZcS ?_; clear X; intro w X) | (refine ZcA ?_; clear X; intro g w X))
 all_goals exact bodyPost_end (results_none rfl _ _ _) rfl ⟨⟨_, rfl⟩, _, _, _, hO2, fun h => (by first | rfl | (exfalso; omega) | (rw [if_neg (by omega)])), X⟩
theorem seal_mark (kd at_ : Int) (x0 q : Int) (vt vb : Value) (mk : Mrk) (p : Int) (hp : 0 ≤ p ∧ p < 24) {S : List Nat} {w0 w : World} {A M T : List Ent} {R : List Rd} {g12 g10 g15 g3 ga k m c n n' cap : Nat} {cs tcs : List Value} {t3 : TypeId} {v : Value} {l : List Stp}
    (hmk : ∀ w' L', St S w0 w' L' R → RMark w' (.agg #[.int .i64 kd, .int .i64 q, .int .i64 at_, vt, vb]) mk)
    (X : St S w0 w (⟨g12, [v], 59⟩ :: ⟨g10, [.slice (some ⟨ga, k, none⟩) m c], 35⟩ :: ⟨g15, [.func (.func 120) #[] #[.pointer (some ⟨g12, 0, none⟩), .pointer (some ⟨g10, 0, none⟩)]], 168⟩ :: ⟨g3, .int .i64 q :: tcs, t3⟩ :: (A ++ (M ++ T))) R) (hO : OwnM stpC 127 3 v l M) (hR : ⟨.slice (some ⟨ga, 0, none⟩) n' cap, n, cs⟩ ∈ R) (hk : cs[k]? = some (.int .i64 p)) (hm : 0 < m) (hmc : m ≤ c) (hl : l.length ≤ 1000) :
    Calls Tryz.prog 121 #[.agg #[.int .i64 kd, .int .i64 x0, .int .i64 at_, vt, vb], .pointer (some ⟨g3, 0, none⟩), .pointer (some ⟨g15, 0, none⟩)] w fun e w' => ∃ u v' at' M', e = .returned u ∧ OwnM stpC 127 3 v' (l ++ [atW p (markS mk)]) M' ∧ (1 < m → at' = .slice (some ⟨ga, k + 1, none⟩) (m - 1) (c - 1)) ∧
      St S w0 w' (⟨g12, [v'], 59⟩ :: ⟨g10, [at'], 35⟩ :: ⟨g15, [.func (.func 120) #[] #[.pointer (some ⟨g12, 0, none⟩), .pointer (some ⟨g10, 0, none⟩)]], 168⟩ :: ⟨g3, .int .i64 q :: tcs, t3⟩ :: (A ++ (M' ++ T))) R := by
 have hE := fun w' L' (X' : St S w0 w' L' R) => stamp_Encode mk _ w' (hmk w' L' X')
 have hL := fun s w (X : St S w0 w (⟨g12, [v], 59⟩ :: ⟨g10, [.slice (some ⟨ga, k, none⟩) m c], 35⟩ :: ⟨g15, [.func (.func 120) #[] #[.pointer (some ⟨g12, 0, none⟩), .pointer (some ⟨g10, 0, none⟩)]], 168⟩ :: ⟨g3, .int .i64 q :: tcs, t3⟩ :: (A ++ (M ++ T))) R) => seal_log s p hp (A := ⟨g15, [.func (.func 120) #[] #[.pointer (some ⟨g12, 0, none⟩), .pointer (some ⟨g10, 0, none⟩)]], 168⟩ :: ⟨g3, .int .i64 q :: tcs, t3⟩ :: A) X hO hR hk hm hmc hl
 generalize markS mk = ms at *
 generalize markE mk = me at *
 replace hE := hid hE; replace hL := hid hL; replace hR := hid hR; replace hk := hid hk
 clear hmk
 go_enter Tryz.func121, Tryz.ntmps121
 go_wp2_with (first
  | (refine ZcL ?_) | (refine ZcS ?_; clear X; intro w X) | (refine ZcA ?_; clear X; intro g w X)
  | (go_at_call 61; go_loud ((with_reducible refine (hE.out _ _ X).mono ?_); rintro e w1 ⟨rfl, hb1⟩; replace X := X.call hb1; clear hb1))
  | (go_at_call 120; go_loud ((with_reducible refine (hL.out _ _ X.tail).mono ?_); rintro e w1 ⟨u, v2, at2, M2, rfl, hO2, hat, X2⟩; replace X := X2; clear X2)))
 exact bodyPost_end (results_none rfl _ _ _) rfl ⟨_, _, _, _, rfl, hO2, hat, X⟩
end Go.Proofs.YtjhmfljlclajnacGreatDoor
namespace Go.Proofs.YtjhmfljlclajnacGreatDoor
open Go.RowKit Wb
set_option maxRecDepth 100000
set_option maxHeartbeats 4000000
theorem pre_isEsc (s : ByteArray) : Lib.hasPrefix s.data.toList [87, 66, 75, 49] = isEsc s := by
 rw [← Lib.hasPrefix_of_take, Bool.eq_iff_iff, Bool.and_eq_true, decide_eq_true_iff, beq_iff_eq]
 constructor
 ·intro hh
  exact decide_eq_true hh.2
 ·intro hh
  exact ⟨by rw [ba_len]; exact isEsc_len hh, of_decide_eq_true hh⟩
theorem take_isEsc (s : ByteArray) : ((s.extract 0 4).toList == [87, 66, 75, 49]) = isEsc s := by
 rw [Lib.toList_data, Lib.extract_data, List.drop_zero]
 unfold isEsc
 rw [Bool.eq_iff_iff, decide_eq_true_iff, beq_iff_eq]
 rfl
theorem drop_str (p : List UInt8) (s : ByteArray) (h : 4 ≤ s.size) : str p ++ s.extract 4 s.size = str (p ++ s.data.toList.drop 4) := by
 apply ba_ext
 rw [ByteArray.data_append, Array.toList_append, Lib.extract_data, List.take_of_length_le (by rw [List.length_drop, ba_len]; omega)]
 simp [str]
theorem stamp_Escape (s : ByteArray) (w : World) (hs : s.size ≤ 9223372036854775807) :
    Calls Tryz.prog 124 #[.string s] w fun e w' => e = .returned (.tuple #[.string (escS s), .bool (isEsc s)]) ∧ Below w.heap.size w w' := by
 have hP := fun w => Tryz.strings_HasPrefix s ⟨#[87, 66, 75, 49]⟩ w
 have hb := pre_isEsc s
 dsimp only at hP
 rw [hb] at hP
 clear hb
 cases hc : isEsc s
 ·rw [hc] at hP
  have hv : escS s = s := by unfold escS; rw [hc]; rfl
  rw [hv]
  replace hP := hid hP
  go_enter Tryz.func124, Tryz.ntmps124
  go_wp2_with (go_at_call 151; refine (hP.out _).mono ?_; rintro e w1 ⟨rfl, rfl⟩)
  go_ret2
  exact ⟨rfl, by exact Zlo⟩
 ·rw [hc] at hP
  have h4 := isEsc_len hc
  have hv : (⟨#[0, 0, 0, 0]⟩ : ByteArray) ++ s.extract 4 s.size = escS s := by unfold escS; rw [hc]; exact drop_str [0, 0, 0, 0] s h4
  have hx : (s.extract 4 s.size).size = s.size - 4 := by simp
  replace hP := hid hP
  go_enter Tryz.func124, Tryz.ntmps124
  go_wp2_with (go_at_call 151; refine (hP.out _).mono ?_; rintro e w1 ⟨rfl, rfl⟩)
  go_ret2
  exact ⟨rfl, by exact Zlo⟩
theorem stamp_Unescape (s : ByteArray) (e : Bool) (w : World) (hs : s.size ≤ 9223372036854775807) :
    Calls Tryz.prog 160 #[.string s, .bool e] w fun r w' => r = .returned (.string (unescS s e)) ∧ Below w.heap.size w w' := by
 by_cases h4 : 4 ≤ s.size
 ·have hx : (s.extract 4 s.size).size = s.size - 4 := by simp
  have hv1 : (⟨#[87, 66, 75, 49]⟩ : ByteArray) ++ s.extract 4 s.size = unescS s true := by unfold unescS; rw [if_pos ⟨rfl, h4⟩]; exact drop_str magic s h4
  have hv0 : unescS s false = s := by unfold unescS; simp
  cases e
  ·rw [hv0]
   clear hv1
   go_enter Tryz.func160, Tryz.ntmps160
   go_wp2
   go_ret
   exact ⟨rfl, by exact Zlo⟩
  ·go_enter Tryz.func160, Tryz.ntmps160
   go_wp2
   go_ret
   exact ⟨rfl, by exact Zlo⟩
 ·have hv : unescS s e = s := by unfold unescS; rw [if_neg (fun hh => h4 hh.2)]
  rw [hv]
  cases e
  all_goals
   go_enter Tryz.func160, Tryz.ntmps160
   go_wp2
   go_ret
   exact ⟨rfl, by exact Zlo⟩
end Go.Proofs.YtjhmfljlclajnacGreatDoor
