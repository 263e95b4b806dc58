/- Parts of the proof: JwI JwJ JnA JwK SeqV Play JnV JnW JnX WhP WhQ OrdP. -/
import Derived.Test.YtjhmfljlclajnadGreatDoorKTopOrdered7
set_option linter.unusedVariables false
set_option linter.unusedSimpArgs false
set_option maxRecDepth 100000
set_option maxHeartbeats 40000000
namespace Wb
open Go Go.RowKit
theorem permJ {α : Type} (a b c : α) (D L : List α) : (a :: b :: c :: (D ++ L)).Perm (c :: (D ++ (a :: b :: L))) := by
 have h1 : (a :: b :: c :: (D ++ L)).Perm (c :: a :: b :: (D ++ L)) := (List.perm_append_comm (l₁ := [a, b]) (l₂ := [c])).append_right _
 exact h1.trans ((List.perm_append_comm_assoc [a, b] D L).cons c)
theorem permB {α : Type} (a b : α) (M L : List α) : (M ++ (a :: b :: L)).Perm (a :: b :: (M ++ L)) := (List.perm_append_comm_assoc [a, b] M L).symm
theorem JFm.acts {Tt Ti : TypeId} {v : JV} {j : Jn} {ds fs : List TV} {MD MU : List Ent} (h : JFm Tt Ti v j ds fs MD MU) (n : Int) : JFm Tt Ti v { j with acts := n } ds fs MD MU := ⟨h.dn, h.us, h.dmap, h.fmap, h.dfit, h.ffit, h.inv.acts n, h.sz⟩
end Wb
namespace Go.Proofs.YtjhmfljlclajnadGreatDoor
open Go.RowKit Wb
theorem jr_noD (c : Int) (w : World) :
    Calls Tryz.prog 24 #[.int .i64 c] w fun e w' => e = .returned (.agg #[.int .i64 c, .int .i64 0, .string ⟨#[]⟩]) /\ Below w.heap.size w w' := by
 have X : St [] w w [] [] := St.start [] w
 go_enter Tryz.func24, Tryz.ntmps24
 go_wp2_with (first
  | (refine ZyL ?_) | (refine ZyS ?_; clear X; intro w X) | (refine ZyA ?_; clear X; intro g w X))
 exact m_ret1 rfl (.tmp rfl rfl) X (.head _) rfl rfl ⟨rfl, X.below⟩
theorem jr_Do (K : JK) {S : List Nat} {w0 w : World} {L : List Ent} {R : List Rd} {gj : Nat} {j : Jn} {M : List Ent} {Rj : List Rd} (F : JF gj j M Rj) (X : St S w0 w (M ++ L) (Rj ++ R)) (hF : flR 0 ∈ R) (a : Aj) (hs : a.text.size <= 9223372036854775807) (hn : a.n <= 9223372036854775807) (ha : 0 <= j.acts) :
    Calls Tryz.prog 14 #[.pointer (some ⟨gj, 0, none⟩), .agg #[.int .i64 a.kind, .int .i64 a.h, .int .i64 a.b, .int .i64 a.n, .string a.text]] w fun e w' => ∃ M' Rj', e = .returned (doJ j a).2.val /\ JF gj (doJ j a).1 M' Rj' /\ St S w0 w' (M' ++ L) (Rj' ++ R) := by
 obtain ⟨v, ds, fs, MD, MU, hm, rfl, rfl⟩ := F
 rw [List.cons_append] at X
 unfold jCells at X
 have hNo := fun c w => jr_noD c w
 replace hNo := hid hNo
 by_cases h4 : 400 <= j.acts
 ·have hD : doJ j a = (j, noR 11) := by unfold doJ; rw [if_pos h4]
  replace hD := hid hD; replace hm := hid hm
  go_enter Tryz.func14, Tryz.ntmps14
  go_upto_region 1 with (first
   | (refine Zbx ?_; clear X; intro g w X)
   | (refine ZyL ?_) | (refine ZyS ?_; clear X; intro w X) | (refine ZyA ?_; clear X; intro g w X))
  go_wp2_with (first
   | (refine ZyL ?_) | (refine ZyS ?_; clear X; intro w X) | (refine ZyA ?_; clear X; intro g w X)
   | (go_at_call 24; ((with_reducible refine (hNo.out _ _).mono ?_); rintro e w1 ⟨rfl, hb1⟩; replace X := X.call hb1; clear hb1)))
  refine m_ret1 rfl (.tmp rfl rfl) X (.head _) rfl rfl ?_
  rw [hD.out]
  first
   | exact ⟨_, _, rfl, ⟨v, ds, fs, MD, MU, hm.out, rfl, rfl⟩, X.sub (List.Sublist.cons _ (List.sublist_cons_self _ _))⟩
   | exact ⟨rfl, _, _, ⟨v, ds, fs, MD, MU, hm.out, rfl, rfl⟩, X.sub (List.Sublist.cons _ (List.sublist_cons_self _ _))⟩
 ·have hw4 : IntKind.i64.wrap (j.acts + 1) = j.acts + 1 := IntWalk.i64_in _ (by omega)
  have hm1 := hm.acts (j.acts + 1)
  replace hm := hid hm; replace hm1 := hid hm1
  have F1 : JF gj { j with acts := j.acts + 1 } (⟨gj, jCells v { j with acts := j.acts + 1 }, 71⟩ :: (MD ++ MU)) (jRds v { j with acts := j.acts + 1 } ds fs) := ⟨v, ds, fs, MD, MU, hm1.out, rfl, rfl⟩
  replace F1 := hid F1
  by_cases hlo : a.kind < 1
  ·have hD : doJ j a = ({ j with acts := j.acts + 1 }, noR 3) := by unfold doJ; rw [if_neg h4, if_pos (.inl hlo)]
   replace hD := hid hD
   go_enter Tryz.func14, Tryz.ntmps14
   go_upto_region 1 with (first
    | (refine Zbx ?_; clear X; intro g w X)
    | (refine ZyL ?_) | (refine ZyS ?_; clear X; intro w X) | (refine ZyA ?_; clear X; intro g w X))
   go_wp2_with (first
    | (refine ZyL ?_) | (refine ZyS ?_; clear X; intro w X) | (refine ZyA ?_; clear X; intro g w X)
    | (go_at_call 24; ((with_reducible refine (hNo.out _ _).mono ?_); rintro e w1 ⟨rfl, hb1⟩; replace X := X.call hb1; clear hb1)))
   refine m_ret1 rfl (.tmp rfl rfl) X (.head _) rfl rfl ?_
   rw [hD.out]
   first
    | exact ⟨_, _, rfl, F1.out, X.sub (List.Sublist.cons _ (List.sublist_cons_self _ _))⟩
    | exact ⟨rfl, _, _, F1.out, X.sub (List.Sublist.cons _ (List.sublist_cons_self _ _))⟩
  by_cases hhi : 11 < a.kind
  ·have hD : doJ j a = ({ j with acts := j.acts + 1 }, noR 3) := by unfold doJ; rw [if_neg h4, if_pos (.inr hhi)]
   replace hD := hid hD
   go_enter Tryz.func14, Tryz.ntmps14
   go_upto_region 1 with (first
    | (refine Zbx ?_; clear X; intro g w X)
    | (refine ZyL ?_) | (refine ZyS ?_; clear X; intro w X) | (refine ZyA ?_; clear X; intro g w X))
   go_wp2_with (first
    | (refine ZyL ?_) | (refine ZyS ?_; clear X; intro w X) | (refine ZyA ?_; clear X; intro g w X)
    | (go_at_call 24; ((with_reducible refine (hNo.out _ _).mono ?_); rintro e w1 ⟨rfl, hb1⟩; replace X := X.call hb1; clear hb1)))
   refine m_ret1 rfl (.tmp rfl rfl) X (.head _) rfl rfl ?_
   rw [hD.out]
   first
    | exact ⟨_, _, rfl, F1.out, X.sub (List.Sublist.cons _ (List.sublist_cons_self _ _))⟩
    | exact ⟨rfl, _, _, F1.out, X.sub (List.Sublist.cons _ (List.sublist_cons_self _ _))⟩
  have hkk : ¬ (a.kind < 1 \/ 11 < a.kind) := by omega
  by_cases k10 : a.kind = 10
  ·have hD : doJ j a = noJ (crashJ { j with acts := j.acts + 1 } a.n) := by unfold doJ; rw [if_neg h4, if_neg hkk, if_pos k10]
   replace hD := hid hD
   have f10 : (a.kind == 10) = true := by rw [k10]; rfl
   go_enter Tryz.func14, Tryz.ntmps14
   go_upto_region 1 with (first
    | (refine Zbx ?_; clear X; intro g w X)
    | (refine ZyL ?_) | (refine ZyS ?_; clear X; intro w X) | (refine ZyA ?_; clear X; intro g w X))
   go_upto_region 10 with (first
    | (refine ZyL ?_) | (refine ZyS ?_; clear X; intro w X) | (refine ZyA ?_; clear X; intro g w X))
   have hC := hid (jr_crash K F1.out (X.perm (permJ _ _ _ _ _)) a.n hn)
   go_wp2_with (first
    | (refine ZyL ?_) | (refine ZyS ?_; clear X; intro w X) | (refine ZyA ?_; clear X; intro g w X)
    | (go_at_call 25; ((with_reducible refine (hC.out).mono ?_); rintro e w1 ⟨M2, R2, rfl, F2, X2⟩; replace X := X2.perm (permB _ _ _ _); clear X2))
    | (go_at_call 24; ((with_reducible refine (hNo.out _ _).mono ?_); rintro e w1 ⟨rfl, hb1⟩; replace X := X.call hb1; clear hb1)))
   refine m_ret1 rfl (.tmp rfl rfl) X (.head _) rfl rfl ?_
   rw [hD.out]
   first
    | exact ⟨_, _, rfl, F2, X.sub (List.Sublist.cons _ (List.sublist_cons_self _ _))⟩
    | exact ⟨rfl, _, _, F2, X.sub (List.Sublist.cons _ (List.sublist_cons_self _ _))⟩
  by_cases k11 : a.kind = 11
  ·have hD : doJ j a = noJ (beginJ { j with acts := j.acts + 1 }) := by unfold doJ; rw [if_neg h4, if_neg hkk, if_neg k10, if_pos k11]
   replace hD := hid hD
   have f10 : (a.kind == 10) = false := beq_eq_false_iff_ne.2 k10
   have f11 : (a.kind == 11) = true := by rw [k11]; rfl
   go_enter Tryz.func14, Tryz.ntmps14
   go_upto_region 1 with (first
    | (refine Zbx ?_; clear X; intro g w X)
    | (refine ZyL ?_) | (refine ZyS ?_; clear X; intro w X) | (refine ZyA ?_; clear X; intro g w X))
   go_upto_region 12 with (first
    | (refine ZyL ?_) | (refine ZyS ?_; clear X; intro w X) | (refine ZyA ?_; clear X; intro g w X))
   have hC := hid (jr_begin K F1.out (X.perm (permJ _ _ _ _ _)) hF)
   go_wp2_with (first
    | (refine ZyL ?_) | (refine ZyS ?_; clear X; intro w X) | (refine ZyA ?_; clear X; intro g w X)
    | (go_at_call 26; ((with_reducible refine (hC.out).mono ?_); rintro e w1 ⟨M2, R2, rfl, F2, X2⟩; replace X := X2.perm (permB _ _ _ _); clear X2))
    | (go_at_call 24; ((with_reducible refine (hNo.out _ _).mono ?_); rintro e w1 ⟨rfl, hb1⟩; replace X := X.call hb1; clear hb1)))
   refine m_ret1 rfl (.tmp rfl rfl) X (.head _) rfl rfl ?_
   rw [hD.out]
   first
    | exact ⟨_, _, rfl, F2, X.sub (List.Sublist.cons _ (List.sublist_cons_self _ _))⟩
    | exact ⟨rfl, _, _, F2, X.sub (List.Sublist.cons _ (List.sublist_cons_self _ _))⟩
  by_cases k8 : a.kind = 8
  ·have hD : doJ j a = stepJ { j with acts := j.acts + 1 } := by unfold doJ; rw [if_neg h4, if_neg hkk, if_neg k10, if_neg k11, if_pos k8]
   replace hD := hid hD
   have f10 : (a.kind == 10) = false := beq_eq_false_iff_ne.2 k10
   have f11 : (a.kind == 11) = false := beq_eq_false_iff_ne.2 k11
   have f8 : (a.kind == 8) = true := by rw [k8]; rfl
   go_enter Tryz.func14, Tryz.ntmps14
   go_upto_region 1 with (first
    | (refine Zbx ?_; clear X; intro g w X)
    | (refine ZyL ?_) | (refine ZyS ?_; clear X; intro w X) | (refine ZyA ?_; clear X; intro g w X))
   go_upto_region 14 with (first
    | (refine ZyL ?_) | (refine ZyS ?_; clear X; intro w X) | (refine ZyA ?_; clear X; intro g w X))
   have hC := hid (jr_step K F1.out (X.perm (permJ _ _ _ _ _)))
   go_wp2_with (first
    | (refine ZyL ?_) | (refine ZyS ?_; clear X; intro w X) | (refine ZyA ?_; clear X; intro g w X)
    | (go_at_call 27; ((with_reducible refine (hC.out).mono ?_); rintro e w1 ⟨M2, R2, rfl, F2, X2⟩; replace X := X2.perm (permB _ _ _ _); clear X2)))
   refine m_ret1 rfl (.tmp rfl rfl) X (.head _) rfl rfl ?_
   rw [hD.out]
   first
    | exact ⟨_, _, rfl, F2, X.sub (List.Sublist.cons _ (List.sublist_cons_self _ _))⟩
    | exact ⟨rfl, _, _, F2, X.sub (List.Sublist.cons _ (List.sublist_cons_self _ _))⟩
  by_cases hd : j.down = true
  ·have hD : doJ j a = ({ j with acts := j.acts + 1 }, noR 10) := by unfold doJ; rw [if_neg h4, if_neg hkk, if_neg k10, if_neg k11, if_neg k8, if_pos hd]
   replace hD := hid hD
   have f10 : (a.kind == 10) = false := beq_eq_false_iff_ne.2 k10
   have f11 : (a.kind == 11) = false := beq_eq_false_iff_ne.2 k11
   have f8 : (a.kind == 8) = false := beq_eq_false_iff_ne.2 k8
   obtain ⟨jx1, jx2, jx3, jx4, jx5, jx6, jx7, jx8, jx9, jx10, jx11, jx12, jx13, jx14, jx15, jx16⟩ := j
   dsimp only at hd X
   subst hd
   go_enter Tryz.func14, Tryz.ntmps14
   go_upto_region 1 with (first
    | (refine Zbx ?_; clear X; intro g w X)
    | (refine ZyL ?_) | (refine ZyS ?_; clear X; intro w X) | (refine ZyA ?_; clear X; intro g w X))
   go_wp2_with (first
    | (refine ZyL ?_) | (refine ZyS ?_; clear X; intro w X) | (refine ZyA ?_; clear X; intro g w X)
    | (go_at_call 24; ((with_reducible refine (hNo.out _ _).mono ?_); rintro e w1 ⟨rfl, hb1⟩; replace X := X.call hb1; clear hb1)))
   refine m_ret1 rfl (.tmp rfl rfl) X (.head _) rfl rfl ?_
   rw [hD.out]
   first
    | exact ⟨_, _, rfl, F1.out, X.sub (List.Sublist.cons _ (List.sublist_cons_self _ _))⟩
    | exact ⟨rfl, _, _, F1.out, X.sub (List.Sublist.cons _ (List.sublist_cons_self _ _))⟩
  have hdf : j.down = false := by simpa using hd
  by_cases k6 : a.kind = 6
  ·have hD : doJ j a = commitJ { j with acts := j.acts + 1 } := by unfold doJ; rw [if_neg h4, if_neg hkk, if_neg k10, if_neg k11, if_neg k8, if_neg hd, if_pos k6]
   replace hD := hid hD
   have f10 : (a.kind == 10) = false := beq_eq_false_iff_ne.2 k10
   have f11 : (a.kind == 11) = false := beq_eq_false_iff_ne.2 k11
   have f8 : (a.kind == 8) = false := beq_eq_false_iff_ne.2 k8
   have f6 : (a.kind == 6) = true := by rw [k6]; rfl
   obtain ⟨jx1, jx2, jx3, jx4, jx5, jx6, jx7, jx8, jx9, jx10, jx11, jx12, jx13, jx14, jx15, jx16⟩ := j
   dsimp only at hdf X
   subst hdf
   go_enter Tryz.func14, Tryz.ntmps14
   go_upto_region 1 with (first
    | (refine Zbx ?_; clear X; intro g w X)
    | (refine ZyL ?_) | (refine ZyS ?_; clear X; intro w X) | (refine ZyA ?_; clear X; intro g w X))
   go_upto_region 19 with (first
    | (refine ZyL ?_) | (refine ZyS ?_; clear X; intro w X) | (refine ZyA ?_; clear X; intro g w X))
   have hC := hid (jr_commit K F1.out (X.perm (permJ _ _ _ _ _)) hF rfl)
   go_wp2_with (first
    | (refine ZyL ?_) | (refine ZyS ?_; clear X; intro w X) | (refine ZyA ?_; clear X; intro g w X)
    | (go_at_call 28; ((with_reducible refine (hC.out).mono ?_); rintro e w1 ⟨M2, R2, rfl, F2, X2⟩; replace X := X2.perm (permB _ _ _ _); clear X2)))
   refine m_ret1 rfl (.tmp rfl rfl) X (.head _) rfl rfl ?_
   rw [hD.out]
   first
    | exact ⟨_, _, rfl, F2, X.sub (List.Sublist.cons _ (List.sublist_cons_self _ _))⟩
    | exact ⟨rfl, _, _, F2, X.sub (List.Sublist.cons _ (List.sublist_cons_self _ _))⟩
  by_cases k7 : a.kind = 7
  ·have hD : doJ j a = noJ (checkJ { j with acts := j.acts + 1 }) := by unfold doJ; rw [if_neg h4, if_neg hkk, if_neg k10, if_neg k11, if_neg k8, if_neg hd, if_neg k6, if_pos k7]
   replace hD := hid hD
   have f10 : (a.kind == 10) = false := beq_eq_false_iff_ne.2 k10
   have f11 : (a.kind == 11) = false := beq_eq_false_iff_ne.2 k11
   have f8 : (a.kind == 8) = false := beq_eq_false_iff_ne.2 k8
   have f6 : (a.kind == 6) = false := beq_eq_false_iff_ne.2 k6
   have f7 : (a.kind == 7) = true := by rw [k7]; rfl
   obtain ⟨jx1, jx2, jx3, jx4, jx5, jx6, jx7, jx8, jx9, jx10, jx11, jx12, jx13, jx14, jx15, jx16⟩ := j
   dsimp only at hdf X
   subst hdf
   go_enter Tryz.func14, Tryz.ntmps14
   go_upto_region 1 with (first
    | (refine Zbx ?_; clear X; intro g w X)
    | (refine ZyL ?_) | (refine ZyS ?_; clear X; intro w X) | (refine ZyA ?_; clear X; intro g w X))
   go_upto_region 21 with (first
    | (refine ZyL ?_) | (refine ZyS ?_; clear X; intro w X) | (refine ZyA ?_; clear X; intro g w X))
   have hC := hid (jr_check K F1.out (X.perm (permJ _ _ _ _ _)) hF)
   go_wp2_with (first
    | (refine ZyL ?_) | (refine ZyS ?_; clear X; intro w X) | (refine ZyA ?_; clear X; intro g w X)
    | (go_at_call 29; ((with_reducible refine (hC.out).mono ?_); rintro e w1 ⟨M2, R2, rfl, F2, X2⟩; replace X := X2.perm (permB _ _ _ _); clear X2))
    | (go_at_call 24; ((with_reducible refine (hNo.out _ _).mono ?_); rintro e w1 ⟨rfl, hb1⟩; replace X := X.call hb1; clear hb1)))
   refine m_ret1 rfl (.tmp rfl rfl) X (.head _) rfl rfl ?_
   rw [hD.out]
   first
    | exact ⟨_, _, rfl, F2, X.sub (List.Sublist.cons _ (List.sublist_cons_self _ _))⟩
    | exact ⟨rfl, _, _, F2, X.sub (List.Sublist.cons _ (List.sublist_cons_self _ _))⟩
  by_cases k9 : a.kind = 9
  ·have hD : doJ j a = ({ j with acts := j.acts + 1 }, readJ { j with acts := j.acts + 1 } a.b) := by unfold doJ; rw [if_neg h4, if_neg hkk, if_neg k10, if_neg k11, if_neg k8, if_neg hd, if_neg k6, if_neg k7, if_pos k9]
   replace hD := hid hD
   have f10 : (a.kind == 10) = false := beq_eq_false_iff_ne.2 k10
   have f11 : (a.kind == 11) = false := beq_eq_false_iff_ne.2 k11
   have f8 : (a.kind == 8) = false := beq_eq_false_iff_ne.2 k8
   have f6 : (a.kind == 6) = false := beq_eq_false_iff_ne.2 k6
   have f7 : (a.kind == 7) = false := beq_eq_false_iff_ne.2 k7
   have f9 : (a.kind == 9) = true := by rw [k9]; rfl
   obtain ⟨jx1, jx2, jx3, jx4, jx5, jx6, jx7, jx8, jx9, jx10, jx11, jx12, jx13, jx14, jx15, jx16⟩ := j
   dsimp only at hdf X
   subst hdf
   go_enter Tryz.func14, Tryz.ntmps14
   go_upto_region 1 with (first
    | (refine Zbx ?_; clear X; intro g w X)
    | (refine ZyL ?_) | (refine ZyS ?_; clear X; intro w X) | (refine ZyA ?_; clear X; intro g w X))
   go_upto_region 23 with (first
    | (refine ZyL ?_) | (refine ZyS ?_; clear X; intro w X) | (refine ZyA ?_; clear X; intro g w X))
   have hC := hid (jr_read K F1.out (X.perm (permJ _ _ _ _ _)) a.b)
   go_wp2_with (first
    | (refine ZyL ?_) | (refine ZyS ?_; clear X; intro w X) | (refine ZyA ?_; clear X; intro g w X)
    | (go_at_call 30; ((with_reducible refine (hC.out).mono ?_); rintro e w1 ⟨M2, R2, rfl, F2, X2⟩; replace X := X2.perm (permB _ _ _ _); clear X2)))
   refine m_ret1 rfl (.tmp rfl rfl) X (.head _) rfl rfl ?_
   rw [hD.out]
   first
    | exact ⟨_, _, rfl, F2, X.sub (List.Sublist.cons _ (List.sublist_cons_self _ _))⟩
    | exact ⟨rfl, _, _, F2, X.sub (List.Sublist.cons _ (List.sublist_cons_self _ _))⟩
  have hD : doJ j a = noJ (changeJ { j with acts := j.acts + 1 } a) := by unfold doJ; rw [if_neg h4, if_neg hkk, if_neg k10, if_neg k11, if_neg k8, if_neg hd, if_neg k6, if_neg k7, if_neg k9]
  replace hD := hid hD
  have f10 : (a.kind == 10) = false := beq_eq_false_iff_ne.2 k10
  have f11 : (a.kind == 11) = false := beq_eq_false_iff_ne.2 k11
  have f8 : (a.kind == 8) = false := beq_eq_false_iff_ne.2 k8
  have f6 : (a.kind == 6) = false := beq_eq_false_iff_ne.2 k6
  have f7 : (a.kind == 7) = false := beq_eq_false_iff_ne.2 k7
  have f9 : (a.kind == 9) = false := beq_eq_false_iff_ne.2 k9
  obtain ⟨jx1, jx2, jx3, jx4, jx5, jx6, jx7, jx8, jx9, jx10, jx11, jx12, jx13, jx14, jx15, jx16⟩ := j
  dsimp only at hdf X
  subst hdf
  go_enter Tryz.func14, Tryz.ntmps14
  go_upto_region 1 with (first
   | (refine Zbx ?_; clear X; intro g w X)
   | (refine ZyL ?_) | (refine ZyS ?_; clear X; intro w X) | (refine ZyA ?_; clear X; intro g w X))
  go_upto_region 24 with (first
   | (refine ZyL ?_) | (refine ZyS ?_; clear X; intro w X) | (refine ZyA ?_; clear X; intro g w X))
  have hC := hid (jr_change K F1.out (X.perm (permJ _ _ _ _ _)) a hs (by omega) rfl)
  go_wp2_with (first
   | (refine ZyL ?_) | (refine ZyS ?_; clear X; intro w X) | (refine ZyA ?_; clear X; intro g w X)
   | (go_at_call 31; ((with_reducible refine (hC.out).mono ?_); rintro e w1 ⟨M2, R2, rfl, F2, X2⟩; replace X := X2.perm (permB _ _ _ _); clear X2))
   | (go_at_call 24; ((with_reducible refine (hNo.out _ _).mono ?_); rintro e w1 ⟨rfl, hb1⟩; replace X := X.call hb1; clear hb1)))
  refine m_ret1 rfl (.tmp rfl rfl) X (.head _) rfl rfl ?_
  rw [hD.out]
  first
   | exact ⟨_, _, rfl, F2, X.sub (List.Sublist.cons _ (List.sublist_cons_self _ _))⟩
   | exact ⟨rfl, _, _, F2, X.sub (List.Sublist.cons _ (List.sublist_cons_self _ _))⟩
theorem mem2J {α : Type} {a b r : α} {R : List α} (h : r ∈ [a, b]) : r ∈ a :: b :: R := by
 rcases List.mem_cons.1 h with rfl | h
 ·exact .head _
 ·rcases List.mem_singleton.1 h with rfl; exact .tail _ (.head _)
theorem rdisk0 {w : World} {a1 : Option Addr} {c1 : Nat} (h1 : RL strC w (.slice a1 newDsk0.safe.length c1) newDsk0.safe) : RDisk w (.agg #[.slice a1 newDsk0.safe.length c1, .slice none 0 0]) newDsk0 := ⟨_, _, rfl, h1, RL.nil _ _, by decide, by decide⟩
theorem jr_New (K : JK) {S : List Nat} {w0 w : World} {L : List Ent} {R : List Rd} (X : St S w0 w L R) :
    Calls Tryz.prog 16 #[] w fun e w' => ∃ g M Rj, e = .returned (.pointer (some ⟨g, 0, none⟩)) /\ JF g newJ M Rj /\ St S w0 w' (M ++ L) (Rj ++ R) := by
 have hNw := fun w => K.dnew w
 have hEn := fun w => K.enc (superM 1 0) (.agg #[.int .i64 1, .int .i64 1, .int .i64 0, .slice none 0 0, .slice none 0 0]) w ⟨_, _, rfl, RL.nil _ _, RL.nil _ _, by decide, by decide⟩
 have hPu := fun v w (h : RDisk w v newDsk0) => K.put newDsk0 0 (markS (superM 1 0)) v w h
 have hFl := fun v w (h : RDisk w v (putD newDsk0 0 (markS (superM 1 0)))) => K.flush (putD newDsk0 0 (markS (superM 1 0))) v w h
 have hD : flushD (putD newDsk0 0 (markS (superM 1 0))) = newDsk := rfl
 have hI := inv_new
 have hg0 : goodD newDsk0 = true := by
  refine (goodD_iff _).2 ⟨by simp [newDsk0], by decide, ?_, rfl⟩
  rw [List.all_eq_true]
  intro s hs
  rw [List.eq_of_mem_replicate hs]
  unfold ok32
  rw [fit_size]; rfl
 have hm := dec_mark (super_good (q := 1) (a := 0) (by decide) (by decide))
 have hp : putE newDsk0 0 (markS (superM 1 0)) = 0 := putE_one hg0 (by decide) hm.2.2 (by decide)
 have hg1 := put_good hp
 rw [hD] at hFl
 have hD0 : newDsk0.safe = List.replicate 37 (fit ⟨#[]⟩) := rfl
 rw [<- hD0] at hNw
 generalize markE (superM 1 0) = mE at *
 generalize markS (superM 1 0) = mS at *
 generalize putE newDsk0 0 mS = pE at *
 generalize putD newDsk0 0 mS = D1 at *
 generalize flushE D1 = fE at *
 have hJ : newJ = { zeroJ newDsk 0 0 with now := txn0 1 } := rfl
 clear hD hm hp hD0 hg0
 replace hNw := hid hNw; replace hEn := hid hEn; replace hPu := hid hPu; replace hFl := hid hFl; replace hI := hid hI
 go_enter Tryz.func16, Tryz.ntmps16
 go_wp2_with (first
  | (refine Zbx ?_; clear X; intro g w X)
  | (refine ZyL ?_) | (refine ZyS ?_; clear X; intro w X) | (refine ZyA ?_; clear X; intro g w X)
  | (go_at_call 34; ((with_reducible refine (hNw.out _).mono ?_); rintro e w1 ⟨vs, rfl, ho1, hb1⟩; obtain ⟨a1, c1, rfl⟩ := ho1.form; replace X := (X.addOwn hb1 (ho1.mono (by omega))).addNil; clear hb1 ho1))
  | (go_at_call 35; ((with_reducible refine (hEn.out _).mono ?_); rintro e w1 ⟨rfl, hb1⟩; replace X := X.call hb1; clear hb1))
  | (go_at_call 36; ((with_reducible refine (hPu.out _ _ (rdisk0 (X.read (List.Mem.tail _ (List.Mem.head _))))).mono ?_); rintro e w1 ⟨v1, rfl, hr1, hn1, hb1⟩; obtain ⟨as2, cs2, aw2, cw2, rfl, X2⟩ := X.addNewD (as_ := a1) (cs := c1) (aw := none) (cw := 0) hb1 hn1 (fun r hr => by simp only [dskR, List.mem_cons, List.not_mem_nil, or_false] at hr; rcases hr with rfl | rfl; exact .tail _ (.head _); exact .head _); replace X := X2; clear X2 hb1 hn1 hr1))
  | (go_at_call 37; ((with_reducible refine (hFl.out _ _ (X.dsk (goodD_len hg1).1 (goodD_len hg1).2)).mono ?_); rintro e w1 ⟨v1, rfl, hr1, hn1, hb1⟩; obtain ⟨as3, cs3, aw3, cw3, rfl, X2⟩ := X.addNewD hb1 hn1 (fun r hr => mem2J hr); replace X := X2; clear X2 hb1 hn1 hr1)))
 go_ret
 refine ⟨_, _, _, rfl, ⟨zeroV ⟨as3, cs3⟩ ⟨aw3, cw3⟩, [], [], [], [], ⟨.nil _ _ _, .nil _ _ _, rfl, rfl, (fun x hx => by cases hx), (fun x hx => by cases hx), hI.out, ⟨Nat.zero_le _, Nat.zero_le _⟩⟩, rfl, rfl⟩, ?_⟩
 exact X.jZero rfl rfl rfl rfl (List.Sublist.refl _) (fun r hr => .tail _ (.tail _ (.tail _ (.tail _ hr))))
end Go.Proofs.YtjhmfljlclajnadGreatDoor
namespace Wb
open Go Go.RowKit
def alA : Aj := ⟨1, 0, 0, 2, ⟨#[]⟩⟩
def alB : Aj := ⟨2, 0, 3, 0, ⟨#[120]⟩⟩
def alC : Aj := ⟨9, 0, 3, 0, ⟨#[]⟩⟩
def alD : Aj := ⟨6, 0, 0, 0, ⟨#[]⟩⟩
def alJ1 : Jn := (doJ newJ alA).1
def alJ2 : Jn := (doJ alJ1 alB).1
def alJ3 : Jn := (doJ alJ2 alC).1
theorem al_A : (doJ newJ alA).2.code = 0 := by decide +kernel
theorem al_B : (doJ alJ1 alB).2.code = 0 := by decide +kernel
theorem al_Cn : (doJ alJ2 alC).2.n = 1 := by decide +kernel
theorem al_Ct : (doJ alJ2 alC).2.text = fit ⟨#[120]⟩ := by rfl
theorem al_D : (doJ alJ3 alD).2.code = 9 := by decide +kernel
variable {S : List Nat} {w0 w : World} {L : List Ent} {R R2 : List Rd}
theorem St.lessR (X : St S w0 w L (R2 ++ R)) : St S w0 w L R := ⟨X.mv, X.nd, X.blk, X.own, fun r hr => X.rd r (List.mem_append_right _ hr)⟩
theorem perm1J {α : Type} (a : α) (M L : List α) : (a :: (M ++ L)).Perm (M ++ (a :: L)) := List.perm_append_comm_assoc [a] M L
theorem perm2J {α : Type} (a b : α) (M L : List α) : (a :: b :: (M ++ L)).Perm (M ++ (a :: b :: L)) := List.perm_append_comm_assoc [a, b] M L
theorem perm3J {α : Type} (a b c : α) (M L : List α) : (a :: b :: c :: (M ++ L)).Perm (M ++ (a :: b :: c :: L)) := List.perm_append_comm_assoc [a, b, c] M L
theorem rep_code {r : Rep} {c : Int} (h : r.code = c) : r = ⟨c, r.n, r.text⟩ := by cases r; cases h; rfl
theorem rep_nt {r : Rep} {n : Int} {t : ByteArray} (h : r.n = n) (h2 : r.text = t) : r = ⟨r.code, n, t⟩ := by cases r; cases h; cases h2; rfl
theorem acts_ge {j : Jn} (a : Aj) (h : 0 <= j.acts) : 0 <= (doJ j a).1.acts := by
 rw [acts_do]; split <;> omega
theorem new_acts : 0 <= newJ.acts := by decide
end Wb
namespace Go.Proofs.YtjhmfljlclajnadGreatDoor
open Go.RowKit Wb
theorem jr_DoA (K : JK) {S : List Nat} {w0 w : World} {L : List Ent} {R : List Rd} {gj : Nat} {j : Jn} {M : List Ent} {Rj : List Rd} (F : JF gj j M Rj) (X : St S w0 w (M ++ L) (Rj ++ R)) (hF : flR 0 ∈ R) (a : Aj) (hs : a.text.size <= 9223372036854775807) (hn : a.n <= 9223372036854775807) (ha : 0 <= j.acts) (vs : List Value) (hv : ajC a = vs) {c n : Int} {t : ByteArray} (hr : (doJ j a).2 = ⟨c, n, t⟩) :
    Calls Tryz.prog 14 #[.pointer (some ⟨gj, 0, none⟩), .agg vs.toArray] w fun e w' => ∃ M' Rj', e = .returned (.agg #[.int .i64 c, .int .i64 n, .string t]) /\ JF gj (doJ j a).1 M' Rj' /\ St S w0 w' (M' ++ L) (Rj' ++ R) := by
 subst hv
 refine (jr_Do K F X hF a hs hn ha).mono ?_
 rintro e w' ⟨M', Rj', rfl, hJ, hX⟩
 exact ⟨M', Rj', by rw [hr]; rfl, hJ, hX⟩
theorem jr_alive (K : JK) {S : List Nat} {w0 w : World} {L : List Ent} {R : List Rd} (X : St S w0 w L R) (hF : flR 0 ∈ R) :
    Calls Tryz.prog 19 #[] w fun e w' => e = .returned (.bool true) /\ St S w0 w' L R := by
 have hFi := fun w => K.fit ⟨#[120]⟩ w (by decide)
 have r1 := rep_code al_A
 have r2 := rep_code al_B
 have r3 := rep_nt al_Cn al_Ct
 have r4 := rep_code al_D
 have a1 : 0 <= alJ1.acts := acts_ge alA new_acts
 have a2 : 0 <= alJ2.acts := acts_ge alB a1
 have a3 : 0 <= alJ3.acts := acts_ge alC a2
 generalize (doJ newJ alA).2.n = n1, (doJ newJ alA).2.text = t1 at r1
 generalize (doJ alJ1 alB).2.n = n2, (doJ alJ1 alB).2.text = t2 at r2
 generalize (doJ alJ2 alC).2.code = c3 at r3
 generalize (doJ alJ3 alD).2.n = n4, (doJ alJ3 alD).2.text = t4 at r4
 generalize fit ⟨#[120]⟩ = tx at hFi r3
 have tx1 : (tx.toList == tx.toList) = true := by simp
 replace hFi := hid hFi; replace r1 := hid r1; replace r2 := hid r2; replace r3 := hid r3; replace r4 := hid r4
 replace a1 := hid a1; replace a2 := hid a2; replace a3 := hid a3
 have hN := hid (jr_New K X)
 go_enter Tryz.func19, Tryz.ntmps19
 go_upto_region 4 with (first
  | (refine ZyL ?_) | (refine ZyS ?_; clear X; intro w X) | (refine ZyA ?_; clear X; intro g w X)
  | (go_at_call 16; ((with_reducible refine (hN.out).mono ?_); rintro e w1 ⟨g, M1, R1, rfl, F1, X2⟩; replace X := X2; clear X2)))
 have hC := hid (jr_DoA K F1 X hF alA (by decide) (by decide) new_acts [.int .i64 1, .int .i64 0, .int .i64 0, .int .i64 2, .string ⟨#[]⟩] rfl r1.out)
 clear hN
 go_upto_region 5 with (first
  | (refine ZyL ?_) | (refine ZyS ?_; clear X; intro w X) | (refine ZyA ?_; clear X; intro g w X)
  | (go_at_call 14; ((with_reducible refine (hC.out).mono ?_); rintro e w1 ⟨M2, R2, rfl, F2, X2⟩; replace X := X2; clear X2)))
 have hC2 := hid (jr_DoA K F2 (X.perm (perm1J _ _ _)) hF alB (by decide) (by decide) a1.out [.int .i64 2, .int .i64 0, .int .i64 3, .int .i64 0, .string ⟨#[120]⟩] rfl r2.out)
 clear hC
 go_upto_region 6 with (first
  | (refine ZyL ?_) | (refine ZyS ?_; clear X; intro w X) | (refine ZyA ?_; clear X; intro g w X)
  | (go_at_call 14; ((with_reducible refine (hC2.out).mono ?_); rintro e w1 ⟨M3, R3, rfl, F3, X2⟩; replace X := X2.perm (perm1J _ _ _).symm; clear X2)))
 have hC3 := hid (jr_DoA K F3 (X.perm (perm2J _ _ _ _)) hF alC (by decide) (by decide) a2.out [.int .i64 9, .int .i64 0, .int .i64 3, .int .i64 0, .string ⟨#[]⟩] rfl r3.out)
 clear hC2
 go_upto_region 7 with (first
  | (refine ZyL ?_) | (refine ZyS ?_; clear X; intro w X) | (refine ZyA ?_; clear X; intro g w X)
  | (go_at_call 14; ((with_reducible refine (hC3.out).mono ?_); rintro e w1 ⟨M4, R4, rfl, F4, X2⟩; replace X := X2.perm (perm2J _ _ _ _).symm; clear X2)))
 have hC4 := hid (jr_DoA K F4 (X.perm (perm3J _ _ _ _ _)) hF alD (by decide) (by decide) a3.out [.int .i64 6, .int .i64 0, .int .i64 0, .int .i64 0, .string ⟨#[]⟩] rfl r4.out)
 clear hC3
 go_upto_region 8 with (first
  | (refine ZyL ?_) | (refine ZyS ?_; clear X; intro w X) | (refine ZyA ?_; clear X; intro g w X)
  | (go_at_call 14; ((with_reducible refine (hC4.out).mono ?_); rintro e w1 ⟨M5, R5, rfl, F5, X2⟩; replace X := X2.perm (perm3J _ _ _ _ _).symm; clear X2)))
 (refine q_startS 4 [] [11] [1, 5, 10, 16, 21] [0, 1, 2, 3, 4, 5, 6, 7, 8, 9, 10, 11, 12, 13, 14, 15, 16, 17, 18, 19, 20, 21, 22, 23, 24] X ?_; clear X; intro hQ X hL; simp only [zF, zG] at hL; simp only [zF, zG])
 refine Zf ?_
 refine Zl ?_
 refine Zg ?_
 refine Zm ?_
 refine Zf ?_
 refine Zl ?_
 refine Zg ?_
 refine Zg ?_
 refine Zm ?_
 refine Zf ?_
 refine Zl ?_
 (refine q_callS 11 Tryz.func11 (hFi.out _) ?_; rintro e w1 ⟨rfl, hb1⟩; replace X := X.call hb1; clear hb1; refine Zce ?_; clear hL; intro hL)
 refine Zg ?_
 refine Zg ?_
 refine Zm ?_
 refine Zf ?_
 refine Zl ?_
 refine Zg ?_
 refine Zg ?_
 refine Zm ?_
 refine Zf ?_
 refine Zl ?_
 refine Zg ?_
 refine Zg ?_
 refine Za ?_
 refine q_nil ?_
 go_wp2
 go_ret
 exact ⟨rfl, (X.sub (.cons _ (.cons _ (.cons _ (.cons _ (List.sublist_append_right _ _)))))).lessR⟩
end Go.Proofs.YtjhmfljlclajnadGreatDoor
namespace Wb
open Go Go.RowKit
variable {P : Program} {S : List Nat} {w0 w : World} {L : List Ent} {R : List Rd}
variable {ops : Array Oper} {Q : Exit -> Act -> World -> Prop} {L0 : List Ent} {R0 : List Rd} {brk eff lds r : List Nat} {a : Act} {i : Nat} {o : Oper}
theorem q_callV (f : FuncId) {x : Operand} {caps : Array Value} (xs : List Operand) (ts : Array TypeId) (hi : oAt ops i = some o) (ho : o.op = .call { callee := .value x, args := xs.toArray, argTypes := ts }) (hx : EvR a x (.func (.func f) #[] caps)) (args : Array Value) (ha : (xs.map a.eval).toArray = args)
    (hb : ∃ fn c, P.funcs[f]? = some fn /\ (fn.name == "runtime.NumGoroutine") = false /\ fn.body = some c) (he : eff.contains i = true) (hw : Region.wanted o (yielded ops a.tmps) = true) {F : Ending -> World -> Prop}
    (h : Calls P f (args ++ caps) w F) (hK : ∀ e w', F e w' -> ∃ v, e = .returned v /\ (brk.contains i = false -> Kept L0 R0 w -> Kept L0 R0 w') /\ SQ P ops Q L0 R0 brk eff lds r (a.put o.dst v) w') : SQ P ops Q L0 R0 brk eff lds (i :: r) a w :=
 q_eff hi he hw fun K hk => by
  subst ha
  obtain ⟨fn, c, h1, h2, h3⟩ := hb
  have hr : (execOp a.eval o).run P w = .ok (.enter f ((xs.map a.eval).toArray ++ caps)) w := by
   unfold execOp
   simp [ho, resolve, invoke, Deferred.ofValue, hx.eval, run_enter h1 h2 h3]
  unfold Oper.wp
  rw [hr, Oper.upon_enter]
  exact h.mono fun e w' hF => by obtain ⟨v, rfl, hs, hq⟩ := hK e w' hF; exact hk _ _ hs hq
def jAt (l : List Aj) (k : Nat) : Jn := (l.take k).foldl (fun j a => (doJ j a).1) newJ
theorem jAt_succ {l : List Aj} {k : Nat} (hk : k < l.length) : jAt l (k + 1) = (doJ (jAt l k) l[k]).1 := by
 unfold jAt
 rw [List.take_add_one, List.getElem?_eq_getElem hk, List.foldl_append]
 rfl
theorem ajC_len (a : Aj) : (ajC a).length = 5 := rfl
theorem RL.atAj {w : World} {al : Option Addr} {n cap : Nat} {l : List Aj} (h : RL ajC w (.slice al n cap) l) {k : Nat} (hk : k < l.length) :
    ∃ b off, al = some ⟨b, off, none⟩ /\ w.cell? ⟨b, off + k * 5, none⟩ = some (.int .i64 l[k].kind) /\ w.cell? ⟨b, off + k * 5 + 1, none⟩ = some (.int .i64 l[k].h) /\ w.cell? ⟨b, off + k * 5 + 2, none⟩ = some (.int .i64 l[k].b) /\ w.cell? ⟨b, off + k * 5 + 3, none⟩ = some (.int .i64 l[k].n) /\ w.cell? ⟨b, off + k * 5 + 4, none⟩ = some (.string l[k].text) := by
 obtain ⟨b, off, ha, hc⟩ := RL.at (c := 5) ajC_len h hk (by decide)
 exact ⟨b, off, ha, hc 0 _ rfl, hc 1 _ rfl, hc 2 _ rfl, hc 3 _ rfl, hc 4 _ rfl⟩
end Wb
namespace Go.Proofs.YtjhmfljlclajnadGreatDoor
open Go.RowKit Wb
def LookF (S : List Nat) (w0 : World) (R : List Rd) {σ : Type} (l : List Aj) (N : FuncId) (caps : Array Value) (T : σ -> List Ent -> List Rd -> Prop) (Ph : Nat -> σ -> Prop) : Prop :=
 ∀ (k : Nat) (hk : k < l.length), k < 150 -> ∀ s, Ph k s -> ∀ (L : List Ent) (gj : Nat) (w : World) (M : List Ent) (Rj : List Rd) (Ms : List Ent) (Rs : List Rd), JF gj (jAt l (k + 1)) M Rj -> T s Ms Rs -> St S w0 w (M ++ (Ms ++ L)) (Rj ++ (Rs ++ R)) ->
  Calls Tryz.prog N (#[.pointer (some ⟨gj, 0, none⟩), .agg (ajC l[k]).toArray, .agg #[.int .i64 (doJ (jAt l k) l[k]).2.code, .int .i64 (doJ (jAt l k) l[k]).2.n, .string (doJ (jAt l k) l[k]).2.text]] ++ caps) w fun e w' =>
   ∃ s' M' Rj' Ms' Rs', e = .returned (.bool true) /\ Ph (k + 1) s' /\ JF gj (jAt l (k + 1)) M' Rj' /\ T s' Ms' Rs' /\ St S w0 w' (M' ++ (Ms' ++ L)) (Rj' ++ (Rs' ++ R))
theorem permG {α : Type} (a : α) (M D L : List α) : (a :: (M ++ (D ++ L))).Perm (M ++ (D ++ (a :: L))) := (perm1J a M (D ++ L)).trans ((perm1J a D L).append_left M)
theorem acts_at (l : List Aj) : ∀ k, 0 <= (jAt l k).acts := by
 intro k
 unfold jAt
 generalize hj : newJ = j
 have h0 : 0 <= j.acts := by rw [<- hj]; exact new_acts
 clear hj
 induction l.take k generalizing j with
 | nil => exact h0
 | cons a r ih => exact ih _ (acts_ge a h0)
theorem jr_play (K : JK) {S : List Nat} {w0 w : World} {L : List Ent} {R : List Rd} {σ : Type} (l : List Aj) (hok : ∀ a ∈ l, a.text.size <= 9223372036854775807 /\ a.n <= 9223372036854775807) (N : FuncId) (caps : Array Value) (T : σ -> List Ent -> List Rd -> Prop) (Ph : Nat -> σ -> Prop) (s0 : σ) (Ms : List Ent) (Rs : List Rd) (hT : T s0 Ms Rs) (hP : Ph 0 s0) (X : St S w0 w (Ms ++ L) (Rs ++ R)) (hF : flR 0 ∈ R) {al : Option Addr} {cl : Nat} (hl : Rd.of ajC (.slice al l.length cl) l ∈ R)
    (hb : ∃ fn c, Tryz.prog.funcs[N]? = some fn /\ (fn.name == "runtime.NumGoroutine") = false /\ fn.body = some c) (hLk : LookF S w0 R l N caps T Ph) :
    Calls Tryz.prog 7 #[.slice al l.length cl, .func (.func N) #[] caps] w fun e w' => ∃ gj M Rj s Ms Rs, e = .returned (.tuple #[.pointer (some ⟨gj, 0, none⟩), .bool true]) /\ JF gj (jAt l (min l.length 150)) M Rj /\ T s Ms Rs /\ Ph (min l.length 150) s /\ St S w0 w' (M ++ (Ms ++ L)) (Rj ++ (Rs ++ R)) := by
 have hAl := hid (jr_alive K X (List.mem_append_right _ hF))
 replace hLk := hid hLk
 replace hok := hid hok
 go_enter Tryz.func7, Tryz.ntmps7
 go_upto_region 3 with (first
  | (refine ZyL ?_) | (refine ZyS ?_; clear X; intro w X) | (refine ZyA ?_; clear X; intro g w X)
  | (go_at_call 19; ((with_reducible refine (hAl.out).mono ?_); rintro e w1 ⟨rfl, X2⟩; replace X := X2; clear X2)))
 clear hAl
 have hN := hid (jr_New K X)
 go_upto_region 4 with (first
  | (refine ZyL ?_) | (refine ZyS ?_; clear X; intro w X) | (refine ZyA ?_; clear X; intro g w X)
  | (go_at_call 16; ((with_reducible refine (hN.out).mono ?_); rintro e w1 ⟨gj, M, Rj, rfl, F, X2⟩; replace X := X2; clear X2)))
 clear hN
 go_wp2
 go_loopw [7] (fun i wr => ∃ (k : Nat) (s : _) (M : List Ent) (Rj : List Rd) (Ms : List Ent) (Rs : List Rd), k <= l.length /\ k <= 150 /\ i = .int .i64 k /\ JF gj (jAt l k) M Rj /\ T s Ms Rs /\ Ph k s /\ St S w0 wr (M ++ (Ms ++ L)) (Rj ++ (Rs ++ R))) (fun i _ => l.length - (intOf i).toNat)
 case atStart => exact ⟨0, s0, M, Rj, Ms, Rs, Nat.zero_le _, Nat.zero_le _, rfl, F, hT, hP, X⟩
 case round =>
  clear X F hP hT Ms Rs s0
  obtain ⟨k, s, M, Rj, Ms, Rs, hk1, hk2, rfl, F, hT, hP, X⟩ := hrel
  by_cases hlt : k < l.length
  ·by_cases h150 : k < 150
   ·obtain ⟨b4, off4, hb4, d0, d1, d2, d3, d4⟩ := RL.atAj (X.read (List.mem_append_right _ (List.mem_append_right _ hl))) hlt
    subst hb4
    have hoka := hok.out _ (List.getElem_mem hlt)
    have hD := hid (jr_DoA K F X (List.mem_append_right _ hF) l[k] hoka.1 hoka.2 (acts_at l k) [.int .i64 l[k].kind, .int .i64 l[k].h, .int .i64 l[k].b, .int .i64 l[k].n, .string l[k].text] rfl (c := (doJ (jAt l k) l[k]).2.code) (n := (doJ (jAt l k) l[k]).2.n) (t := (doJ (jAt l k) l[k]).2.text) rfl)
    have hD2 := fun L gj w M Rj F X => hLk.out k hlt h150 s hP L gj w M Rj Ms Rs F hT X
    clear hoka
    rw [<- jAt_succ hlt] at hD
    replace hD2 := hid hD2
    have c1 : (k : Int) < (l.length : Int) := by omega
    have c2 : (k : Int) < 150 := by omega
    go_upto_region 8 with (first
     | (refine ZyL ?_) | (refine ZyS ?_; clear X; intro w X) | (refine ZyA ?_; clear X; intro g w X)
     | (go_at_call 14; ((with_reducible refine (hD.out).mono ?_); rintro e w1 ⟨M2, R2, rfl, F2, X2⟩; replace X := X2; clear X2)))
    clear hD
    (refine q_startS 1 [7] [7] [5, 6] [0, 1, 2, 3, 4, 5, 6, 7, 8] X ?_; clear X; intro hQ X hL; simp only [zF, zG] at hL; simp only [zF, zG])
    refine Zm ?_
    refine Zm ?_
    refine Zm ?_
    refine Zm ?_
    refine Zg ?_
    refine q_elemN ajC_len hlt rfl rfl (List.mem_append_right _ (List.mem_append_right _ hl)) Zev rfl rfl X hL hQ ?_
    (simp only [Act.put, zA, zB, zC, zD, zE, zF, zG, Nat.reduceAdd])
    refine Zl ?_
    refine q_callV N _ _ rfl rfl Zev _ rfl hb rfl rfl (hD2.out _ _ _ _ _ F2 (X.perm (permG _ _ _ _))) ?_
    rintro e w1 ⟨s2, M3, R3, Ms2, Rs2, rfl, hP2, F3, hT2, X3⟩
    refine ⟨_, rfl, fun h => absurd h (by decide), ?_⟩
    clear hL X
    have X := X3
    clear X3
    (simp only [Act.put, zA, zB, zC, zD, zE, zF, zG, Nat.reduceAdd])
    refine Zg ?_
    refine q_nil ?_
    go_wp2
    go_roundw
    case rel => exact ⟨k + 1, s2, M3, R3, Ms2, Rs2, by omega, by omega, by go_num, F3, hT2, hP2, X.sub ((List.Sublist.refl _).append ((List.Sublist.refl _).append (List.sublist_cons_self _ _)))⟩
    case measure => simp [intOf]; omega
   ·have c1 : (k : Int) < (l.length : Int) := by omega
    have c2 : ¬ (k : Int) < 150 := by omega
    have hm : min l.length 150 = k := by omega
    replace hm := hid hm
    go_wp2_with (first
     | (refine ZyL ?_) | (refine ZyS ?_; clear X; intro w X) | (refine ZyA ?_; clear X; intro g w X))
    rw [hm.out]
    first
     | exact bodyPost_ret (results_tmp2 rfl _ _ _) rfl ⟨_, _, _, _, _, _, rfl, F, hT, hP, X⟩
     | exact bodyPost_ret (results_tmp2 rfl _ _ _) rfl ⟨_, rfl, _, _, F, _, _, _, hT, hP, X⟩
  ·have hm : min l.length 150 = k := by omega
   replace hm := hid hm
   go_wp2_with (first
    | (refine ZyL ?_) | (refine ZyS ?_; clear X; intro w X) | (refine ZyA ?_; clear X; intro g w X))
   rw [hm.out]
   first
    | exact bodyPost_ret (results_tmp2 rfl _ _ _) rfl ⟨_, _, _, _, _, _, rfl, F, hT, hP, X⟩
    | exact bodyPost_ret (results_tmp2 rfl _ _ _) rfl ⟨_, rfl, _, _, F, _, _, _, hT, hP, X⟩
end Go.Proofs.YtjhmfljlclajnadGreatDoor
namespace Wb
open Go Go.RowKit
def topT (t : Txn) (b : Int) : Option (Option ByteArray) := match getC t.mt b with | some s => some (some s) | none => match getC t.dt b with | some s => some (some s) | none => if inI t.rev b = true then some none else none
def homeX (j : Jn) (b : Int) : ByteArray := (newestB j.done b).getD (readD j.disk (25 + b))
def readX (j : Jn) (b : Int) : Option ByteArray := match topT j.now b with | some r => r | none => match topT j.sealed b with | some r => r | none => some (homeX j b)
structure VI (j : Jn) : Prop where
 a : ∀ b, isBlk b = true -> (turnT j.now (turnT j.sealed (newestB j.done b) b) b).isSome = true -> j.roles b = 1
 b : ∀ b, hasB j.now.dt b = true -> turnT j.sealed (newestB j.done b) b = none
 c : ∀ b, hasB j.sealed.dt b = true -> newestB j.done b = none
theorem turn_txn0 (q : Int) (o : Option ByteArray) (b : Int) : turnT (txn0 q) o b = o := rfl
theorem top_txn0 (q : Int) (b : Int) : topT (txn0 q) b = none := rfl
theorem topT_congr {t u : Txn} {b : Int} (h1 : getC u.mt b = getC t.mt b) (h2 : getC u.dt b = getC t.dt b) (h3 : inI u.rev b = inI t.rev b) : topT u b = topT t b := by unfold topT; rw [h1, h2, h3]
theorem turnT_congr {t u : Txn} {b : Int} {o : Option ByteArray} (h1 : getC u.mt b = getC t.mt b) (h3 : inI u.rev b = inI t.rev b) : turnT u o b = turnT t o b := by unfold turnT; rw [h1, h3]
theorem turnT_some {t : Txn} {b : Int} {o : Option ByteArray} {s : ByteArray} (h : getC t.mt b = some s) : turnT t o b = some s := by unfold turnT; rw [h]
theorem turnT_rev {t : Txn} {b : Int} {o : Option ByteArray} (h : getC t.mt b = none) (h2 : inI t.rev b = true) : turnT t o b = none := by unfold turnT; rw [h]; simp [h2]
theorem turnT_else {t : Txn} {b : Int} {o : Option ByteArray} (h : getC t.mt b = none) (h2 : inI t.rev b = false) : turnT t o b = o := by unfold turnT; rw [h]; simp [h2]
theorem orE_zero {e f : Int} {c : Prop} [Decidable c] (hf : f ≠ 0) (h : orE e c f = 0) : e = 0 /\ ¬ c := by
 unfold orE at h
 split at h
 ·exact absurd h hf
 ·rename_i hc
  exact ⟨h, fun hcc => hc ⟨h, hcc⟩⟩
theorem chg_zero {t : Txn} {h b : Int} {s : ByteArray} (e : chgE t h b s = 0) : mayE t h b = 0 /\ hasB t.dt b = false := by
 unfold chgE at e
 split at e
 ·rename_i h1; exact absurd e h1
 rename_i h1
 split at e
 ·cases e
 split at e
 ·cases e
 rename_i h2
 exact ⟨by simpa using h1, by simpa using h2⟩
theorem fil_zero {t : Txn} {h b : Int} {s : ByteArray} (e : filE t h b s = 0) : mayE t h b = 0 /\ hasB t.mt b = false /\ inI t.rev b = false := by
 unfold filE at e
 split at e
 ·rename_i h1; exact absurd e h1
 rename_i h1
 split at e
 ·cases e
 split at e
 ·cases e
 rename_i h2
 refine ⟨by simpa using h1, ?_⟩
 unfold owed at h2
 simpa using h2
theorem rvk_zero {t : Txn} {h b : Int} (e : rvkE t h b = 0) : mayE t h b = 0 := by
 unfold rvkE at e
 split at e
 ·rename_i h1; exact absurd e h1
 rename_i h1
 simpa using h1
structure ChgD (t u : Txn) (b : Int) : Prop where
 mt : ∀ x, x ≠ b -> getC u.mt x = getC t.mt x
 dt : ∀ x, x ≠ b -> getC u.dt x = getC t.dt x
 rev : ∀ x, x ≠ b -> inI u.rev x = inI t.rev x
theorem chg_d {t : Txn} {h b : Int} {s : ByteArray} (e : chgE t h b s = 0) (hg : goodT t = true) : ChgD t (chgT t h b s) b /\ getC (chgT t h b s).mt b = some s /\ (chgT t h b s).dt = t.dt /\ inI (chgT t h b s).rev b = false := by
 have g := goodT_of.1 hg
 unfold chgT
 rw [if_pos e]
 refine ⟨⟨fun x hx => ?_, fun x hx => ?_, fun x hx => ?_⟩, ?_, ?_, ?_⟩
 ·show getC (putL t.mt b s) x = _
  rw [put_get b s g.mt, if_neg hx]
 ·show getC (payT t h b).dt x = _
  rw [(payT_same t h b).2.2.1]
 ·show inI (offI t.rev b) x = _
  rw [off_in]; simp [hx]
 ·show getC (putL t.mt b s) b = _
  rw [put_get b s g.mt, if_pos rfl]
 ·exact (payT_same t h b).2.2.1
 ·show inI (offI t.rev b) b = _
  rw [off_in]; simp
theorem fil_d {t : Txn} {h b : Int} {s : ByteArray} (e : filE t h b s = 0) (hg : goodT t = true) : ChgD t (filT t h b s) b /\ getC (filT t h b s).dt b = some s /\ (filT t h b s).mt = t.mt /\ (filT t h b s).rev = t.rev := by
 have g := goodT_of.1 hg
 unfold filT
 rw [if_pos e]
 refine ⟨⟨fun x hx => rfl, fun x hx => ?_, fun x hx => rfl⟩, ?_, rfl, rfl⟩
 ·show getC (putL t.dt b s) x = _
  rw [put_get b s g.dt, if_neg hx]
 ·show getC (putL t.dt b s) b = _
  rw [put_get b s g.dt, if_pos rfl]
theorem rvk_d {t : Txn} {h b : Int} (e : rvkE t h b = 0) : ChgD t (rvkT t h b) b /\ getC (rvkT t h b).mt b = none /\ getC (rvkT t h b).dt b = none /\ inI (rvkT t h b).rev b = true := by
 unfold rvkT
 rw [if_pos e]
 refine ⟨⟨fun x hx => ?_, fun x hx => ?_, fun x hx => ?_⟩, ?_, ?_, ?_⟩
 ·show getC (dropC t.mt b) x = _
  rw [drop_get, if_neg hx]
 ·show getC (dropC t.dt b) x = _
  rw [drop_get, if_neg hx]
 ·show inI (insI t.rev b) x = _
  rw [ins_in]; simp [hx]
 ·show getC (dropC t.mt b) b = _
  rw [drop_get, if_pos rfl]
 ·show getC (dropC t.dt b) b = _
  rw [drop_get, if_pos rfl]
 ·show inI (insI t.rev b) b = _
  rw [ins_in]; simp
theorem ChgD.top {t u : Txn} {b : Int} (h : ChgD t u b) {x : Int} (hx : x ≠ b) : topT u x = topT t x := topT_congr (h.mt x hx) (h.dt x hx) (h.rev x hx)
theorem ChgD.turn {t u : Txn} {b : Int} (h : ChgD t u b) {x : Int} (hx : x ≠ b) (o : Option ByteArray) : turnT u o x = turnT t o x := turnT_congr (h.mt x hx) (h.rev x hx)
theorem ChgD.hasD {t u : Txn} {b : Int} (h : ChgD t u b) {x : Int} (hx : x ≠ b) : hasB u.dt x = hasB t.dt x := by rw [hasB_get, hasB_get, h.dt x hx]
theorem readX_congr {j k : Jn} {b : Int} (h1 : topT k.now b = topT j.now b) (h2 : k.sealed = j.sealed) (h3 : k.done = j.done) (h4 : k.disk = j.disk) : readX k b = readX j b := by
 unfold readX homeX; rw [h1, h2, h3, h4]
theorem setF_self (f : Int -> Int) (b v : Int) : setF f b v b = v := by simp [setF]
theorem setF_ne {f : Int -> Int} {b v x : Int} (h : x ≠ b) : setF f b v x = f x := by simp [setF, h]
theorem role_change {j : Jn} {a : Aj} (he : altE j a = 0) (hb : isBlk a.b = true) : (changeJ j a).1.roles a.b = altTo j a /\ ∀ x, x ≠ a.b -> (changeJ j a).1.roles x = j.roles x := by
 unfold changeJ
 rw [if_pos he]
 dsimp only
 have hr : roleJ j a.b = j.roles a.b := by unfold roleJ; rw [if_pos hb]
 split
 ·exact ⟨setF_self _ _ _, fun x hx => setF_ne hx⟩
 ·rename_i hn
  refine ⟨?_, fun x _ => rfl⟩
  apply Classical.byContradiction
  intro hne
  exact hn ⟨hb, fun h => hne (by rw [h, hr])⟩
theorem vi_alt {j k : Jn} {b : Int} (v : VI j) (hD : ChgD j.now k.now b) (hs : k.sealed = j.sealed) (hd : k.done = j.done) (hr : ∀ x, x ≠ b -> k.roles x = j.roles x)
    (ha : isBlk b = true -> (turnT k.now (turnT j.sealed (newestB j.done b) b) b).isSome = true -> k.roles b = 1) (hb : hasB k.now.dt b = true -> turnT j.sealed (newestB j.done b) b = none) : VI k := by
 refine ⟨fun x hx h => ?_, fun x h => ?_, fun x h => ?_⟩
 ·rw [hs, hd] at h
  by_cases e : x = b
  ·rw [e] at h hx ⊢; exact ha hx h
  ·rw [hD.turn e] at h
   rw [hr x e]
   exact v.a x hx h
 ·rw [hs, hd]
  by_cases e : x = b
  ·rw [e] at h ⊢; exact hb h
  ·rw [hD.hasD e] at h
   exact v.b x h
 ·rw [hs] at h
  rw [hd]
  exact v.c x h
theorem vi_same {j k : Jn} (v : VI j) (hn : k.now = j.now) (hs : k.sealed = j.sealed) (hd : k.done = j.done) (hr : k.roles = j.roles) : VI k :=
 ⟨by rw [hn, hs, hd, hr]; exact v.a, by rw [hn, hs, hd]; exact v.b, by rw [hs, hd]; exact v.c⟩
theorem vi_zero {j : Jn} {q p : Int} (hn : j.now = txn0 q) (hs : j.sealed = txn0 p) (hd : j.done = []) : VI j := by
 refine ⟨fun b _ h => ?_, fun b h => ?_, fun b h => ?_⟩
 ·rw [hn, hs, hd] at h; cases h
 ·rw [hs, hd]; rfl
 ·rw [hd]; rfl
def KeepX (j k : Jn) (b : Int) : Prop := (∀ s, readX j b = some s -> readX k b = some s) /\ k.roles b = j.roles b
theorem KeepX.refl (j : Jn) (b : Int) : KeepX j j b := ⟨fun _ h => h, rfl⟩
theorem vi_change {j : Jn} {a : Aj} (hg : goodT j.now = true) (v : VI j) (hk : a.kind = 1 \/ a.kind = 2 \/ a.kind = 3 \/ a.kind = 4 \/ a.kind = 5) :
    VI (changeJ j a).1 /\ ((a.kind = 2 \/ a.kind = 3) -> (changeJ j a).2 = 0 -> isBlk a.b = true /\ readX (changeJ j a).1 a.b = some (fit a.text) /\ (changeJ j a).1.roles a.b ≠ 0) /\
    ∀ b, ((a.kind = 2 \/ a.kind = 3 \/ a.kind = 4) -> (changeJ j a).2 = 0 -> b ≠ a.b) -> KeepX j (changeJ j a).1 b := by
 by_cases he : altE j a = 0
 rotate_left
 ·have h1 : changeJ j a = (j, altE j a) := by unfold changeJ; rw [if_neg he]
  rw [h1]
  exact ⟨v, fun _ h => absurd h he, fun b _ => KeepX.refl j b⟩
 have hc : (changeJ j a).2 = 0 := by unfold changeJ; rw [if_pos he]
 have hnow : (changeJ j a).1.now = altT j a := by unfold changeJ; rw [if_pos he]
 have hsl : (changeJ j a).1.sealed = j.sealed := by unfold changeJ; rw [if_pos he]
 have hdn : (changeJ j a).1.done = j.done := by unfold changeJ; rw [if_pos he]
 have hdk : (changeJ j a).1.disk = j.disk := by unfold changeJ; rw [if_pos he]
 have key : ChgD j.now (altT j a) a.b -> isBlk a.b = true -> (isBlk a.b = true -> (turnT (altT j a) (turnT j.sealed (newestB j.done a.b) a.b) a.b).isSome = true -> altTo j a = 1) -> (hasB (altT j a).dt a.b = true -> turnT j.sealed (newestB j.done a.b) a.b = none) ->
     VI (changeJ j a).1 /\ ∀ b, b ≠ a.b -> KeepX j (changeJ j a).1 b := by
  intro hD hb h1 h2
  obtain ⟨r1, r2⟩ := role_change he hb
  refine ⟨vi_alt (b := a.b) v (by rw [hnow]; exact hD) hsl hdn r2 (by rw [hnow, r1]; exact h1) (by rw [hnow]; exact h2), fun b hne => ⟨fun s hs => ?_, r2 b hne⟩⟩
  rw [readX_congr (by rw [hnow]; exact hD.top hne) hsl hdn hdk]
  exact hs
 have same : (altT j a).mt = j.now.mt -> (altT j a).dt = j.now.dt -> (altT j a).rev = j.now.rev -> altTo j a = roleJ j a.b -> VI (changeJ j a).1 /\ ∀ b, KeepX j (changeJ j a).1 b := by
  intro e1 e2 e3 e4
  have hr : (changeJ j a).1.roles = j.roles := by
   unfold changeJ
   rw [if_pos he]
   dsimp only
   rw [if_neg (by rw [e4]; exact fun h => h.2 rfl)]
  have hD : ChgD j.now (altT j a) a.b := ⟨fun x _ => by rw [e1], fun x _ => by rw [e2], fun x _ => by rw [e3]⟩
  refine ⟨vi_alt (b := a.b) v (by rw [hnow]; exact hD) hsl hdn (fun x _ => by rw [hr]) (fun hb h => ?_) (fun h => ?_), fun b => ⟨fun s hs => ?_, by rw [hr]⟩⟩
  ·have hT : ∀ o, turnT (altT j a) o a.b = turnT j.now o a.b := fun o => turnT_congr (by rw [e1]) (by rw [e3])
   rw [hnow, hT] at h
   rw [hr]
   exact v.a _ hb h
  ·rw [hnow, e2] at h
   exact v.b _ h
  ·rw [readX_congr (by rw [hnow]; exact topT_congr (by rw [e1]) (by rw [e2]) (by rw [e3])) hsl hdn hdk]
   exact hs
 rcases hk with hk | hk | hk | hk | hk
 ·
  have e : altT j a = begT j.now a.h a.n (frJ j) := by unfold altT; rw [if_pos hk]
  have e2 : begT j.now a.h a.n (frJ j) = j.now \/ ∃ x, begT j.now a.h a.n (frJ j) = setH j.now a.h x := by unfold begT; split; exact .inr ⟨_, rfl⟩; exact .inl rfl
  have e3 : (altT j a).mt = j.now.mt /\ (altT j a).dt = j.now.dt /\ (altT j a).rev = j.now.rev := by
   rw [e]
   rcases e2 with h | ⟨x, h⟩
   ·rw [h]; exact ⟨rfl, rfl, rfl⟩
   ·rw [h]; exact (setH_same _ _ _).2
  obtain ⟨s1, s2⟩ := same e3.1 e3.2.1 e3.2.2 (by unfold altTo; rw [if_neg (by omega), if_neg (by omega), if_neg (by omega)])
  exact ⟨s1, fun h => by omega, fun b _ => s2 b⟩
 ·
  have e : altT j a = chgT j.now a.h a.b (fit a.text) := by unfold altT; rw [if_neg (by omega), if_neg (by omega), if_pos hk]
  have hz : orE (chgE j.now a.h a.b (fit a.text)) (roleJ j a.b = 2) 8 = 0 := by have := he; unfold altE at this; rw [if_neg (by omega), if_neg (by omega), if_pos hk] at this; exact this
  obtain ⟨z1, _⟩ := orE_zero (by decide) hz
  obtain ⟨z2, z3⟩ := chg_zero z1
  have hb := (may_zero z2).2.2.2
  obtain ⟨d1, d2, d3, d4⟩ := chg_d z1 hg
  have hto : altTo j a = 1 := by unfold altTo; rw [if_pos hk]
  obtain ⟨s1, s2⟩ := key (by rw [e]; exact d1) hb (fun _ _ => hto) (fun h => by rw [e, d3, z3] at h; cases h)
  refine ⟨s1, fun _ _ => ⟨hb, ?_, ?_⟩, fun b h => s2 b (h (.inl hk) hc)⟩
  ·unfold readX topT
   rw [hnow, e, d2]
  ·rw [(role_change he hb).1, hto]; decide
 ·
  have e : altT j a = filT j.now a.h a.b (fit a.text) := by unfold altT; rw [if_neg (by omega), if_neg (by omega), if_neg (by omega), if_pos hk]
  have hz : orE (orE (filE j.now a.h a.b (fit a.text)) (roleJ j a.b = 1) 8) (j.last < j.freed a.b) 9 = 0 := by have := he; unfold altE at this; rw [if_neg (by omega), if_neg (by omega), if_neg (by omega), if_pos hk] at this; exact this
  obtain ⟨z0, _⟩ := orE_zero (by decide) hz
  obtain ⟨z1, z4⟩ := orE_zero (by decide) z0
  obtain ⟨z2, z3, z5⟩ := fil_zero z1
  have hb := (may_zero z2).2.2.2
  obtain ⟨d1, d2, d3, d4⟩ := fil_d z1 hg
  have hto : altTo j a = 2 := by unfold altTo; rw [if_neg (by omega), if_pos hk]
  have hrl : roleJ j a.b = j.roles a.b := by unfold roleJ; rw [if_pos hb]
  have hT : turnT (altT j a) (turnT j.sealed (newestB j.done a.b) a.b) a.b = turnT j.now (turnT j.sealed (newestB j.done a.b) a.b) a.b := by rw [e]; exact turnT_congr (by rw [d3]) (by rw [d4])
  have hN : turnT j.now (turnT j.sealed (newestB j.done a.b) a.b) a.b = turnT j.sealed (newestB j.done a.b) a.b := turnT_else (getC_none z3) z5
  obtain ⟨s1, s2⟩ := key (by rw [e]; exact d1) hb (fun _ h => by rw [hT] at h; exact absurd (v.a _ hb h) (by rw [<- hrl]; exact z4)) (fun _ => by
   cases hx : turnT j.sealed (newestB j.done a.b) a.b with
   | none => rfl
   | some y => exact absurd (v.a _ hb (by rw [hN, hx]; rfl)) (by rw [<- hrl]; exact z4))
  refine ⟨s1, fun _ _ => ⟨hb, ?_, ?_⟩, fun b h => s2 b (h (.inr (.inl hk)) hc)⟩
  ·unfold readX topT
   rw [hnow, e, d3, getC_none z3, d2]
  ·rw [(role_change he hb).1, hto]; decide
 ·
  have e : altT j a = rvkT j.now a.h a.b := by unfold altT; rw [if_neg (by omega), if_neg (by omega), if_neg (by omega), if_neg (by omega)]
  have hz : orE (rvkE j.now a.h a.b) (roleJ j a.b = 0) 8 = 0 := by have := he; unfold altE at this; rw [if_neg (by omega), if_neg (by omega), if_neg (by omega), if_neg (by omega), if_pos hk] at this; exact this
  obtain ⟨z1, _⟩ := orE_zero (by decide) hz
  have hb := (may_zero (rvk_zero z1)).2.2.2
  obtain ⟨d1, d2, d3, d4⟩ := rvk_d z1
  obtain ⟨s1, s2⟩ := key (by rw [e]; exact d1) hb (fun _ h => by rw [e, turnT_rev d2 d4] at h; cases h) (fun h => by rw [e, hasB_get, d3] at h; cases h)
  exact ⟨s1, fun h => by omega, fun b h => s2 b (h (.inr (.inr hk)) hc)⟩
 ·
  have e : altT j a = stopT j.now a.h := by unfold altT; rw [if_neg (by omega), if_pos hk]
  have e2 : stopT j.now a.h = j.now \/ ∃ x, stopT j.now a.h = setH j.now a.h x := by unfold stopT; split; exact .inr ⟨_, rfl⟩; exact .inl rfl
  have e3 : (altT j a).mt = j.now.mt /\ (altT j a).dt = j.now.dt /\ (altT j a).rev = j.now.rev := by
   rw [e]
   rcases e2 with h | ⟨x, h⟩
   ·rw [h]; exact ⟨rfl, rfl, rfl⟩
   ·rw [h]; exact (setH_same _ _ _).2
  obtain ⟨s1, s2⟩ := same e3.1 e3.2.1 e3.2.2 (by unfold altTo; rw [if_neg (by omega), if_neg (by omega), if_neg (by omega)])
  exact ⟨s1, fun h => by omega, fun b _ => s2 b⟩
theorem vi_commit {j : Jn} (h0 : j.work = 0 -> j.sealed = txn0 0) (v : VI j) : VI (commitJ j).1 /\ ∀ b, KeepX j (commitJ j).1 b := by
 unfold commitJ
 split
 ·exact ⟨v, fun b => KeepX.refl j b⟩
 rename_i hw
 have hs := h0 (Classical.byContradiction fun h => hw (.inl h))
 split
 ·exact ⟨v, fun b => KeepX.refl j b⟩
 split
 ·exact ⟨v, fun b => KeepX.refl j b⟩
 split
 ·exact ⟨v, fun b => KeepX.refl j b⟩
 dsimp only
 refine ⟨⟨fun b hb h => ?_, fun b h => ?_, fun b h => ?_⟩, fun b => ⟨fun s h => ?_, rfl⟩⟩
 ·have := v.a b hb
  rw [hs] at this
  exact this h
 ·cases h
 ·have := v.b b h
  rw [hs] at this
  exact this
 ·rw [<- h]
  unfold readX
  rw [hs]
  dsimp only
  rw [top_txn0, top_txn0]
  cases topT j.now b <;> rfl
theorem vi_check {j : Jn} (v : VI j) : VI (checkJ j).1 /\ ∀ b, KeepX j (checkJ j).1 b := by
 unfold checkJ
 split
 ·exact ⟨v, fun b => KeepX.refl j b⟩
 split
 ·exact ⟨v, fun b => KeepX.refl j b⟩
 ·exact ⟨vi_same v rfl rfl rfl rfl, fun b => ⟨fun s h => h, rfl⟩⟩
theorem nat_home {b : Int} (hb : isBlk b = true) : ∃ k : Nat, (25 + b) = (k : Int) /\ k < 37 /\ 25 <= k := by
 unfold isBlk at hb
 have := of_decide_eq_true hb
 exact ⟨(25 + b).toNat, by omega, by omega, by omega⟩
theorem has_mem {l : List Cpy} {c : Cpy} (hc : c ∈ l) : hasB l c.block = true := by
 unfold hasB
 rw [List.any_eq_true]
 exact ⟨c, hc, by simp⟩
theorem com_home {r : Ring} {t : Txn} {d : Dsk} {k : Nat} {b : Int} (he : comE r t = 0) (hg : goodD d = true) (hw : d.writes = []) (hb : isBlk b = true) (hn : hasB t.dt b = false) : readD (runD d ((comL r t).take k)) (25 + b) = readD d (25 + b) := by
 obtain ⟨n, h1, h2, h3⟩ := nat_home hb
 obtain ⟨ho, hl⟩ := com_ok he
 rw [h1]
 refine run_read_none hg (fun s hs => ho s (List.mem_of_mem_take hs)) (by rw [hw, List.length_take]; simp; omega) h2 ?_
 intro x hx hf hat
 have hx2 := List.mem_of_mem_take hx
 rw [comL_split he] at hx2
 have hlog : ∀ (p : Int) (s : ByteArray), (atW (p % 24) s).at_ = n -> False := fun p s h => by
  have h5 : (1 : Int) + p % 24 = n := h
  omega
 rcases List.mem_append.1 hx2 with h | h
 ·rcases mem_comA h with rfl | ⟨c, hc, rfl⟩ | ⟨j, hj, rfl⟩
  ·exact hf rfl
  ·have h4 : (25 : Int) + c.block = n := hat
   have h5 : c.block = b := by omega
   have h6 := has_mem hc
   rw [h5, hn] at h6
   cases h6
  ·exact hlog _ _ hat
 ·rcases List.mem_cons.1 h with rfl | h
  ·exact hlog _ _ hat
  ·obtain rfl := List.mem_singleton.1 h
   exact hf rfl
theorem com_home_end {r : Ring} {t : Txn} {d : Dsk} {b : Int} {s : ByteArray} (he : comE r t = 0) (hg : goodD d = true) (hw : d.writes = []) (hb : isBlk b = true) (hn : getC t.dt b = some s) : readD (runD d (comL r t)) (25 + b) = s := by
 obtain ⟨n, h1, h2, h3⟩ := nat_home hb
 obtain ⟨ho, hl⟩ := com_ok he
 have g := (comE_zero he).2.1
 have hmem : (⟨b, s⟩ : Cpy) ∈ t.dt := by
  have := (mem_getC (copies_pw _ |>.1 g.dt).1 ⟨b, s⟩).2 hn
  exact this
 have hlog : ∀ (p : Int) (s : ByteArray), (atW (p % 24) s).at_ = n -> False := fun p s h => by
  have h5 : (1 : Int) + p % 24 = n := h
  omega
 rw [h1]
 refine run_read _ hg ho (by rw [hw]; simp; omega) h2 ?_ (.inl ⟨wrS (25 + b) s, ?_, wr_kind _ _, h1⟩)
 ·intro x hx hf hat
  rw [comL_split he] at hx
  rcases List.mem_append.1 hx with h | h
  ·rcases mem_comA h with rfl | ⟨c, hc, rfl⟩ | ⟨j, hj, rfl⟩
   ·exact absurd rfl hf
   ·have h4 : (25 : Int) + c.block = n := hat
    exact dt_one g hc hmem (show c.block = b by omega)
   ·exact (hlog _ _ hat).elim
  ·rcases List.mem_cons.1 h with rfl | h
   ·exact (hlog _ _ hat).elim
   ·obtain rfl := List.mem_singleton.1 h
    exact absurd rfl hf
 ·rw [comL_split he]
  refine List.mem_append_left _ ?_
  unfold comA dataS
  exact List.mem_append_left _ (List.mem_append_left _ (List.mem_map.2 ⟨⟨b, s⟩, hmem, rfl⟩))
theorem chk_home {l : List Txn} {a q : Int} {d : Dsk} {k : Nat} {b : Int} (hgs : ∀ t ∈ l, goodT t = true) (ha : 0 <= a /\ a < 24) (hq : 1 <= q /\ q <= 2147483647) (hg : goodD d = true) (hw : d.writes = []) (hb : isBlk b = true) (hn : newestB l b = none) : readD (runD d ((checkL (newestL l) a q).take k)) (25 + b) = readD d (25 + b) := by
 obtain ⟨n, h1, h2, h3⟩ := nat_home hb
 have g := newestL_copies hgs
 obtain ⟨ho, hl⟩ := chk_ok g ha hq
 rw [h1]
 refine run_read_none hg (fun s hs => ho s (List.mem_of_mem_take hs)) (by rw [hw, List.length_take]; simp; omega) h2 ?_
 intro x hx hf hat
 have hx2 := List.mem_of_mem_take hx
 rw [(check_zero g ha hq).2] at hx2
 rcases List.mem_append.1 hx2 with h | h
 ·rcases mem_home h with rfl | ⟨c, hc, rfl⟩
  ·exact hf rfl
  ·have h4 : (25 : Int) + c.block = n := hat
   have h5 : c.block = b := by omega
   have h6 := (mem_getC (copies_pw _ |>.1 g).1 c).1 hc
   rw [h5, newestL_get hgs, hn] at h6
   cases h6
 ·rcases List.mem_cons.1 h with rfl | h
  ·have h4 : (0 : Int) = n := hat
   omega
  ·obtain rfl := List.mem_singleton.1 h
   exact hf rfl
theorem chk_home_end {l : List Txn} {a q : Int} {d : Dsk} {b : Int} {s : ByteArray} (hgs : ∀ t ∈ l, goodT t = true) (ha : 0 <= a /\ a < 24) (hq : 1 <= q /\ q <= 2147483647) (hg : goodD d = true) (hw : d.writes = []) (hb : isBlk b = true) (hn : newestB l b = some s) : readD (runD d (checkL (newestL l) a q)) (25 + b) = s := by
 obtain ⟨n, h1, h2, h3⟩ := nat_home hb
 have g := newestL_copies hgs
 obtain ⟨ho, hl⟩ := chk_ok g ha hq
 have hmem : (⟨b, s⟩ : Cpy) ∈ newestL l := (mem_getC (copies_pw _ |>.1 g).1 ⟨b, s⟩).2 (by rw [newestL_get hgs]; exact hn)
 rw [h1]
 refine run_read _ hg ho (by rw [hw]; simp; omega) h2 ?_ (.inl ⟨wrS (25 + b) s, ?_, wr_kind _ _, h1⟩)
 ·intro x hx hf hat
  rw [(check_zero g ha hq).2] at hx
  rcases List.mem_append.1 hx with h | h
  ·rcases mem_home h with rfl | ⟨c, hc, rfl⟩
   ·exact absurd rfl hf
   ·have h4 : (25 : Int) + c.block = n := hat
    exact cpy_one g hc hmem (show c.block = b by omega)
  ·rcases List.mem_cons.1 h with rfl | h
   ·have h4 : (0 : Int) = n := hat
    omega
   ·obtain rfl := List.mem_singleton.1 h
    exact absurd rfl hf
 ·rw [(check_zero g ha hq).2]
  refine List.mem_append_left _ ?_
  unfold homeS
  exact List.mem_append_left _ (List.mem_map.2 ⟨⟨b, s⟩, hmem, rfl⟩)
theorem good_none {t : Txn} {b : Int} {s : ByteArray} (g : GoodT t) (h : getC t.dt b = some s) : getC t.mt b = none /\ inI t.rev b = false := by
 have hd : hasB t.dt b = true := by rw [hasB_get, h]; rfl
 refine ⟨?_, ?_⟩
 ·cases hm : getC t.mt b with
  | none => rfl
  | some x =>
   have := g.ap.2 b (by rw [hasB_get, hm]; rfl)
   rw [hd] at this
   cases this
 ·cases hr : inI t.rev b with
  | false => rfl
  | true =>
   have := (g.ap.1 b hr).2
   rw [hd] at this
   cases this
theorem topT_none {t : Txn} {b : Int} (h : topT t b = none) : getC t.mt b = none /\ getC t.dt b = none /\ inI t.rev b = false := by
 unfold topT at h
 cases h1 : getC t.mt b with
 | some x => rw [h1] at h; cases h
 | none =>
  rw [h1] at h
  cases h2 : getC t.dt b with
  | some x => rw [h2] at h; cases h
  | none =>
   rw [h2] at h
   dsimp only at h
   cases h3 : inI t.rev b with
   | false => exact ⟨rfl, rfl, rfl⟩
   | true => rw [h3] at h; simp at h
theorem topT_some {t : Txn} {b : Int} {s : ByteArray} (h : topT t b = some (some s)) : getC t.mt b = some s \/ getC t.dt b = some s := by
 unfold topT at h
 cases h1 : getC t.mt b with
 | some x => rw [h1] at h; cases h; exact .inl rfl
 | none =>
  rw [h1] at h
  cases h2 : getC t.dt b with
  | some x => rw [h2] at h; cases h; exact .inr rfl
  | none =>
   rw [h2] at h
   dsimp only at h
   split at h <;> cases h
theorem vi_step {j : Jn} (h : InvJ j) (hd : j.down = false) (v : VI j) : VI (stepJ j).1 /\ ∀ b, isBlk b = true -> KeepX j (stepJ j).1 b := by
 by_cases hw0 : j.work = 0
 ·have h1 : (stepJ j).1 = j := by unfold stepJ; rw [if_pos hw0]
  rw [h1]; exact ⟨v, fun b _ => KeepX.refl j b⟩
 obtain ⟨s, r, hs, he⟩ := inv_steps h hw0
 unfold stepJ
 rw [if_neg hw0, hs]
 dsimp only
 rw [if_neg (by rw [he]; decide)]
 cases h with
 | idle hd hw => exact absurd hw hw0
 | off hj hu => rw [hj] at hw0; exact absurd rfl hw0
 | rising d k hj => rw [hj] at hd; cases hd
 | sealing d rg us k _ hw hu hn hc hq hq2 hr hus hk hdk hst =>
  obtain ⟨ho, hlen⟩ := com_ok hc
  obtain ⟨_, e2, e3⟩ := step_of hu.log.good hu.log.clean ho (by omega) hk hdk (hs.symm.trans hst)
  have g := (comE_zero hc).2.1
  have hX : ∀ k b, isBlk b = true -> topT j.sealed b = none -> readD (runD d ((comL rg j.sealed).take k)) (25 + b) = readD d (25 + b) := fun k b hb ht =>
   com_home hc hu.log.good hu.log.clean hb (by rw [hasB_get, (topT_none ht).2.1]; rfl)
  by_cases hr0 : r = []
  ·rw [if_pos hr0]
   have hk1 : k + 1 = (comL rg j.sealed).length := by
    rw [hr0] at e3
    have := congrArg List.length e3
    rw [List.length_drop, List.length_nil] at this
    omega
   have e4 := e2
   rw [hk1, List.take_length] at e4
   unfold endJ
   dsimp only
   rw [if_pos hw]
   dsimp only
   refine ⟨⟨fun b hb hh => ?_, fun b hh => ?_, fun b hh => ?_⟩, fun b hb => ⟨fun x hx => ?_, rfl⟩⟩
   ·dsimp only at hh ⊢
    rw [newestB_snoc] at hh
    exact v.a b hb hh
   ·dsimp only at hh ⊢
    rw [newestB_snoc]
    exact v.b b hh
   ·cases hh
   ·unfold readX at hx ⊢
    dsimp only
    cases hn1 : topT j.now b with
    | some y => rw [hn1] at hx; exact hx
    | none =>
     rw [hn1] at hx
     rw [top_txn0]
     dsimp only at hx ⊢
     unfold homeX at hx ⊢
     dsimp only
     rw [newestB_snoc, e4]
     cases hs1 : topT j.sealed b with
     | some y =>
      rw [hs1] at hx
      dsimp only at hx
      subst hx
      rcases topT_some hs1 with hm | hm
      ·rw [turnT_some hm]; rfl
      ·obtain ⟨m1, m2⟩ := good_none g hm
       rw [turnT_else m1 m2, v.c b (by rw [hasB_get, hm]; rfl)]
       exact congrArg some (com_home_end hc hu.log.good hu.log.clean hb hm)
     | none =>
      rw [hs1] at hx
      dsimp only at hx
      obtain ⟨m1, m2, m3⟩ := topT_none hs1
      rw [turnT_else m1 m3, <- hx]
      have e5 := hX (comL rg j.sealed).length b hb hs1
      rw [List.take_length] at e5
      rw [e5, hdk, hX k b hb hs1]
  ·rw [if_neg hr0]
   refine ⟨vi_same v rfl rfl rfl rfl, fun b hb => ⟨fun x hx => ?_, rfl⟩⟩
   unfold readX at hx ⊢
   dsimp only
   cases hn1 : topT j.now b with
   | some y => rw [hn1] at hx; exact hx
   | none =>
    rw [hn1] at hx
    dsimp only at hx ⊢
    cases hs1 : topT j.sealed b with
    | some y => rw [hs1] at hx; exact hx
    | none =>
     rw [hs1] at hx
     dsimp only at hx ⊢
     rw [<- hx]
     unfold homeX
     dsimp only
     rw [e2, hX (k + 1) b hb hs1, hdk, hX k b hb hs1]
 | homing d k _ hw hu hn hse hp ha hk hdk hst hne =>
  have hb0 := hu.log.bounds
  obtain ⟨ho, hlen⟩ := chk_ok (newestL_copies hu.log.goods) hb0.1 hb0.2.1
  obtain ⟨_, e2, e3⟩ := step_of hu.log.good hu.log.clean ho (by omega) hk hdk (hs.symm.trans hst)
  have hX : ∀ k b, isBlk b = true -> newestB j.done b = none -> readD (runD d ((checkL (newestL j.done) j.ring.head (j.last + 1)).take k)) (25 + b) = readD d (25 + b) := fun k b hb ht =>
   chk_home hu.log.goods hb0.1 hb0.2.1 hu.log.good hu.log.clean hb ht
  by_cases hr0 : r = []
  ·rw [if_pos hr0]
   have hk1 : k + 1 = (checkL (newestL j.done) j.ring.head (j.last + 1)).length := by
    rw [hr0] at e3
    have := congrArg List.length e3
    rw [List.length_drop, List.length_nil] at this
    omega
   have e4 := e2
   rw [hk1, List.take_length] at e4
   have hdr : j.done.drop j.pending.toNat = [] := by rw [hp, Int.toNat_natCast, List.drop_length]
   unfold endJ
   dsimp only
   rw [if_neg (by rw [hw]; decide), if_pos hw]
   dsimp only
   rw [hdr]
   refine ⟨⟨fun b hb hh => ?_, fun b hh => ?_, fun b hh => ?_⟩, fun b hb => ⟨fun x hx => ?_, rfl⟩⟩
   ·dsimp only at hh ⊢
    refine v.a b hb ?_
    rw [hse] at hh ⊢
    rw [turn_txn0] at hh ⊢
    unfold turnT at hh ⊢
    cases hm : getC j.now.mt b with
    | some y => rfl
    | none =>
     rw [hm] at hh
     dsimp only at hh
     split at hh <;> cases hh
   ·dsimp only
    rw [hse, turn_txn0]; rfl
   ·rfl
   ·unfold readX at hx ⊢
    dsimp only
    cases hn1 : topT j.now b with
    | some y => rw [hn1] at hx; exact hx
    | none =>
     rw [hn1] at hx
     rw [hse, top_txn0] at hx ⊢
     dsimp only at hx ⊢
     unfold homeX at hx ⊢
     dsimp only
     rw [e4]
     cases hm : newestB j.done b with
     | some y =>
      rw [hm] at hx
      have e5 := chk_home_end (a := j.ring.head) (q := j.last + 1) (d := d) hu.log.goods hb0.1 hb0.2.1 hu.log.good hu.log.clean hb hm
      rw [<- hx]
      exact congrArg some e5
     | none =>
      rw [hm] at hx
      rw [<- hx]
      have e5 := hX (checkL (newestL j.done) j.ring.head (j.last + 1)).length b hb hm
      rw [List.take_length] at e5
      rw [hdk, hX k b hb hm]
      exact congrArg some e5
  ·rw [if_neg hr0]
   refine ⟨vi_same v rfl rfl rfl rfl, fun b hb => ⟨fun x hx => ?_, rfl⟩⟩
   unfold readX at hx ⊢
   dsimp only
   cases hn1 : topT j.now b with
   | some y => rw [hn1] at hx; exact hx
   | none =>
    rw [hn1] at hx
    dsimp only at hx ⊢
    cases hs1 : topT j.sealed b with
    | some y => rw [hs1] at hx; exact hx
    | none =>
     rw [hs1] at hx
     dsimp only at hx ⊢
     rw [<- hx]
     unfold homeX
     dsimp only
     cases hm : newestB j.done b with
     | some y => rfl
     | none => rw [e2, hX (k + 1) b hb hm, hdk, hX k b hb hm]
theorem vi_rise {j : Jn} (h : InvJ j) (hd : j.down = true) : VI (stepJ j).1 := by
 have hz : j.now = txn0 0 /\ j.sealed = txn0 0 /\ j.done = [] := by
  cases h with
  | idle hd2 => rw [hd2] at hd; cases hd
  | sealing _ _ _ _ hd2 => rw [hd2] at hd; cases hd
  | homing _ _ hd2 => rw [hd2] at hd; cases hd
  | off hj hu => rw [hj]; exact ⟨rfl, rfl, rfl⟩
  | rising d k hj hu => rw [hj]; exact ⟨rfl, rfl, rfl⟩
 by_cases hw0 : j.work = 0
 ·unfold stepJ; rw [if_pos hw0]
  exact vi_zero hz.1 hz.2.1 hz.2.2
 obtain ⟨s, r, hs, he⟩ := inv_steps h hw0
 have hw3 : j.work = 3 := by
  cases h with
  | idle hd2 => rw [hd2] at hd; cases hd
  | sealing _ _ _ _ hd2 => rw [hd2] at hd; cases hd
  | homing _ _ hd2 => rw [hd2] at hd; cases hd
  | off hj hu => rw [hj] at hw0; exact absurd rfl hw0
  | rising d k hj hu => rw [hj]
 unfold stepJ
 rw [if_neg hw0, hs]
 dsimp only
 rw [if_neg (by rw [he]; decide)]
 split
 ·unfold endJ
  dsimp only
  rw [if_neg (by omega), if_neg (by omega), if_pos hw3]
  exact vi_zero (j := riseJ _) rfl rfl rfl
 ·exact vi_zero hz.1 hz.2.1 hz.2.2
theorem InvJ.sealed0 {j : Jn} (h : InvJ j) (hw : j.work = 0) : j.sealed = txn0 0 := by
 cases h with
 | idle hd2 _ _ _ hs => exact hs
 | sealing _ _ _ _ _ hw1 => rw [hw] at hw1; exact absurd hw1 (by decide)
 | homing _ _ _ hw1 => rw [hw] at hw1; exact absurd hw1 (by decide)
 | off hj hu => rw [hj]; rfl
 | rising d k hj hu => rw [hj]; rfl
theorem InvJ.now_good {j : Jn} (h : InvJ j) (hd : j.down = false) : goodT j.now = true := by
 cases h with
 | idle _ _ _ hn => exact hn.good
 | sealing _ _ _ _ _ _ _ hn => exact hn.good
 | homing _ _ _ _ _ hn => exact hn.good
 | off hj hu => rw [hj] at hd; cases hd
 | rising d k hj hu => rw [hj] at hd; cases hd
theorem blk_nat {b : Int} (h : isBlk b = true) : ∃ n : Nat, b = (n : Int) /\ n < 12 := by
 unfold isBlk at h
 have := of_decide_eq_true h
 exact ⟨b.toNat, by omega, by omega⟩
theorem last_rep {L r : List Stp} {n : Nat} (hk : n < L.length) (e3 : r = L.drop (n + 1)) : (r = [] -> n + 1 = L.length) /\ (r ≠ [] -> n + 1 < L.length) := by
 have hl : r.length = L.length - (n + 1) := by rw [e3, List.length_drop]
 refine ⟨fun h => ?_, fun h => ?_⟩
 ·rw [h, List.length_nil] at hl; omega
 ·have : r.length ≠ 0 := fun h0 => h (List.eq_nil_of_length_eq_zero h0)
  omega
structure Got where
 seq : Int
 text : ByteArray
structure Ob where
 data : Int -> List Got
 down : Bool
def ob0 : Ob := ⟨fun _ => [], false⟩
def setL (f : Int -> List Got) (b : Int) (v : List Got) : Int -> List Got := fun x => if x = b then v else f x
theorem setL_self (f : Int -> List Got) (b : Int) (v : List Got) : setL f b v b = v := by simp [setL]
theorem setL_ne {f : Int -> List Got} {b x : Int} {v : List Got} (h : x ≠ b) : setL f b v x = f x := by simp [setL, h]
def ordrOk (l : List Got) (last : Int) (s : ByteArray) : Prop := ∀ l1 g l2, l = l1 ++ g :: l2 -> g.seq <= last -> (∀ x ∈ l2, last < x.seq) -> s = g.text \/ ∃ x ∈ l2, x.text = s
theorem ordOk_nil (last : Int) (s : ByteArray) : ordrOk [] last s := fun l1 g l2 h => by
 have := congrArg List.length h
 simp at this
def seeO (k : Ob) (j : Jn) (a : Aj) (r : Rep) : Ob :=
 if r.code ≠ 0 then { k with down := j.down }
 else if a.kind = 2 \/ a.kind = 4 then ⟨setL k.data a.b [], j.down⟩
 else if a.kind = 3 then ⟨setL k.data a.b (k.data a.b ++ [⟨j.now.seq, fit a.text⟩]), j.down⟩
 else if a.kind = 8 /\ k.down = true /\ j.down = false then ⟨fun _ => [], j.down⟩
 else { k with down := j.down }
def okO (k : Ob) (j : Jn) (a : Aj) (r : Rep) : Prop := r.code = 0 -> a.kind = 8 -> k.down = true -> j.down = false -> ∀ b, isBlk b = true -> ordrOk (k.data b) j.last (readD j.disk (25 + b))
def lastT2 (l : List Got) : Option ByteArray := l.getLast?.map (·.text)
theorem split_le {A D l1 l2 : List Got} {g : Got} {n : Int} (hA : ∀ x ∈ A, x.seq <= n) (hD : ∀ x ∈ D, n < x.seq) (h : A ++ D = l1 ++ g :: l2) (hg : g.seq <= n) (h2 : ∀ x ∈ l2, n < x.seq) : A = l1 ++ [g] /\ l2 = D := by
 rw [List.append_eq_append_iff] at h
 rcases h with ⟨m, e1, e2⟩ | ⟨m, e1, e2⟩
 ·have : g ∈ D := by rw [e2]; simp
  have := hD g this
  omega
 ·cases m with
  | nil =>
   rw [List.nil_append] at e2
   have : g ∈ D := by rw [<- e2]; simp
   have := hD g this
   omega
  | cons y m =>
   rw [List.cons_append, List.cons.injEq] at e2
   obtain ⟨rfl, e3⟩ := e2
   cases m with
   | nil => exact ⟨e1, e3⟩
   | cons z m =>
    have h3 := hA z (by rw [e1]; simp)
    have h4 := h2 z (by rw [e3]; simp)
    omega
theorem last_app {A B : List Got} (h : B ≠ []) : (A ++ B).getLast? = B.getLast? := by
 rw [List.getLast?_append]
 cases h2 : B.getLast? with
 | none => exact absurd (List.getLast?_eq_none_iff.1 h2) h
 | some x => rfl
structure OC (k : Ob) (j : Jn) (d : Dsk) (n b : Int) : Prop where
 ex : ∃ A B C, k.data b = A ++ (B ++ C) /\ (∀ g ∈ A, g.seq <= j.last) /\ (∀ g ∈ B, g.seq = j.last + 1 /\ g.seq <= n) /\ (∀ g ∈ C, g.seq = n + 1) /\ (∀ g, A.getLast? = some g -> readD d (25 + b) = g.text) /\
  (k.data b ≠ [] -> getC j.sealed.dt b = lastT2 B) /\ getC j.now.dt b = lastT2 C
 s0 : k.data b = [] -> getC j.sealed.dt b = none \/ j.last < j.freed b
 r : k.data b ≠ [] -> j.roles b = 2 /\ (getC j.now.mt b = none /\ inI j.now.rev b = false) /\ (getC j.sealed.mt b = none /\ inI j.sealed.rev b = false) /\ newestB j.done b = none
 f : inI j.sealed.rev b = true -> j.last < j.freed b
 f2 : inI j.now.rev b = true -> n < j.freed b
theorem OC.congr {k k2 : Ob} {j j2 : Jn} {d : Dsk} {n b : Int} (h : OC k j d n b) (e0 : k2.data = k.data) (e1 : j2.last = j.last) (e2 : j2.sealed = j.sealed) (e3 : j2.now = j.now) (e4 : j2.freed = j.freed) (e5 : j2.roles = j.roles) (e6 : j2.done = j.done) : OC k2 j2 d n b :=
 ⟨by rw [e0, e1, e2, e3]; exact h.ex, by rw [e0, e1, e2, e4]; exact h.s0, by rw [e0, e2, e3, e5, e6]; exact h.r, by rw [e1, e2, e4]; exact h.f, by rw [e3, e4]; exact h.f2⟩
theorem OC.nil0 {k : Ob} {j : Jn} {d : Dsk} {n b q p : Int} (h0 : k.data b = []) (h1 : j.now = txn0 q) (h2 : j.sealed = txn0 p) : OC k j d n b :=
 ⟨⟨[], [], [], h0, (fun g h => nomatch h), (fun g h => nomatch h), (fun g h => nomatch h), (fun g h => nomatch h), (fun h => absurd h0 h), by rw [h1]; rfl⟩, (fun _ => .inl (by rw [h2]; rfl)), (fun h => absurd h0 h), (fun h => by rw [h2] at h; cases h), (fun h => by rw [h1] at h; cases h)⟩
theorem OC.other {k k2 : Ob} {j j2 : Jn} {d : Dsk} {n b : Int} (h : OC k j d n b) (e0 : k2.data b = k.data b) (e1 : j2.last = j.last) (e2 : j2.sealed = j.sealed) (m1 : getC j2.now.mt b = getC j.now.mt b) (m2 : getC j2.now.dt b = getC j.now.dt b) (m3 : inI j2.now.rev b = inI j.now.rev b) (e4 : j2.freed b = j.freed b) (e5 : j2.roles b = j.roles b) (e6 : j2.done = j.done) : OC k2 j2 d n b :=
 ⟨by rw [e0, e1, e2, m2]; exact h.ex, by rw [e0, e1, e2, e4]; exact h.s0, by rw [e0, e2, m1, m3, e5, e6]; exact h.r, by rw [e1, e2, e4]; exact h.f, by rw [m3, e4]; exact h.f2⟩
theorem o_change {k : Ob} {j : Jn} {a : Aj} {d : Dsk} {n : Int} (hg : goodT j.now = true) (hV : VI j) (hq : j.now.seq = n + 1) (hn : j.last <= n) (v : ∀ b, isBlk b = true -> OC k j d n b) (hk : a.kind = 1 \/ a.kind = 2 \/ a.kind = 3 \/ a.kind = 4 \/ a.kind = 5) :
    ∀ b, isBlk b = true -> OC (seeO k (changeJ j a).1 a (noR (changeJ j a).2)) (changeJ j a).1 d n b := by
 by_cases he : altE j a = 0
 rotate_left
 ·have h1 : changeJ j a = (j, altE j a) := by unfold changeJ; rw [if_neg he]
  rw [h1]
  have e : seeO k j a (noR (altE j a)) = { k with down := j.down } := by unfold seeO; rw [if_pos (by exact he)]
  rw [e]
  exact fun b hb => (v b hb).congr rfl rfl rfl rfl rfl rfl rfl
 obtain ⟨hV2, _⟩ := vi_change hg hV hk
 have hc : (changeJ j a).2 = 0 := by unfold changeJ; rw [if_pos he]
 have hnow : (changeJ j a).1.now = altT j a := by unfold changeJ; rw [if_pos he]
 have c1 : (changeJ j a).1.last = j.last := by unfold changeJ; split <;> rfl
 have c4 : (changeJ j a).1.done = j.done := by unfold changeJ; split <;> rfl
 have c6 : (changeJ j a).1.sealed = j.sealed := by unfold changeJ; split <;> rfl
 rw [hc]
 have hfr : a.kind ≠ 4 -> (changeJ j a).1.freed = j.freed := fun h4 => by unfold changeJ; rw [if_pos he]; dsimp only; rw [if_neg h4]
 have same : (altT j a).mt = j.now.mt -> (altT j a).dt = j.now.dt -> (altT j a).rev = j.now.rev -> altTo j a = roleJ j a.b -> (a.kind = 1 \/ a.kind = 5) -> ∀ b, isBlk b = true -> OC (seeO k (changeJ j a).1 a (noR 0)) (changeJ j a).1 d n b := by
  intro e1 e2 e3 e4 hk2 b hb
  have hr : (changeJ j a).1.roles = j.roles := by
   unfold changeJ
   rw [if_pos he]
   dsimp only
   rw [if_neg (by rw [e4]; exact fun h => h.2 rfl)]
  have e : (seeO k (changeJ j a).1 a (noR 0)).data = k.data := by
   unfold seeO
   rw [if_neg (fun h => h rfl), if_neg (by omega), if_neg (by omega), if_neg (by omega)]
  exact (v b hb).other (by rw [e]) c1 c6 (by rw [hnow, e1]) (by rw [hnow, e2]) (by rw [hnow, e3]) (by rw [hfr (by omega)]) (by rw [hr]) c4
 rcases hk with hk | hk | hk | hk | hk
 ·
  have e : altT j a = begT j.now a.h a.n (frJ j) := by unfold altT; rw [if_pos hk]
  have e2 : begT j.now a.h a.n (frJ j) = j.now \/ ∃ x, begT j.now a.h a.n (frJ j) = setH j.now a.h x := by unfold begT; split; exact .inr ⟨_, rfl⟩; exact .inl rfl
  have e3 : (altT j a).mt = j.now.mt /\ (altT j a).dt = j.now.dt /\ (altT j a).rev = j.now.rev := by
   rw [e]
   rcases e2 with h | ⟨x, h⟩
   ·rw [h]; exact ⟨rfl, rfl, rfl⟩
   ·rw [h]; exact (setH_same _ _ _).2
  exact same e3.1 e3.2.1 e3.2.2 (by unfold altTo; rw [if_neg (by omega), if_neg (by omega), if_neg (by omega)]) (.inl hk)
 ·
  have e : altT j a = chgT j.now a.h a.b (fit a.text) := by unfold altT; rw [if_neg (by omega), if_neg (by omega), if_pos hk]
  have hz : orE (chgE j.now a.h a.b (fit a.text)) (roleJ j a.b = 2) 8 = 0 := by have := he; unfold altE at this; rw [if_neg (by omega), if_neg (by omega), if_pos hk] at this; exact this
  obtain ⟨z1, z8⟩ := orE_zero (by decide) hz
  obtain ⟨z2, z3⟩ := chg_zero z1
  have hb := (may_zero z2).2.2.2
  obtain ⟨d1, d2, d3, d4⟩ := chg_d z1 hg
  obtain ⟨r1, r2⟩ := role_change he hb
  have hrl : roleJ j a.b = j.roles a.b := by unfold roleJ; rw [if_pos hb]
  have es : seeO k (changeJ j a).1 a (noR 0) = ⟨setL k.data a.b [], (changeJ j a).1.down⟩ := by
   unfold seeO
   rw [if_neg (fun h => h rfl), if_pos (.inl hk)]
  rw [es]
  intro b hbb
  have hfb := hfr (by omega)
  by_cases hx : b = a.b
  rotate_left
  ·exact (v b hbb).other (setL_ne hx) c1 c6 (by rw [hnow, e]; exact d1.mt b hx) (by rw [hnow, e]; exact d1.dt b hx) (by rw [hnow, e]; exact d1.rev b hx) (by rw [hfb]) (r2 b hx) c4
  subst hx
  have o := v _ hbb
  have hL : k.data a.b = [] := by
   by_cases hl : k.data a.b = []
   ·exact hl
   ·exact absurd (o.r hl).1 (by rw [<- hrl]; exact z8)
  have e0 : setL k.data a.b [] a.b = [] := setL_self _ _ _
  refine ⟨⟨[], [], [], e0, (fun g h => nomatch h), (fun g h => nomatch h), (fun g h => nomatch h), (fun g h => nomatch h), (fun h => absurd e0 h), ?_⟩, fun _ => ?_, fun h => absurd e0 h, fun h => ?_, fun h => ?_⟩
  ·rw [hnow, e, d3]; exact getC_none z3
  ·rw [c1, c6, hfb]; exact o.s0 hL
  ·rw [c6] at h; rw [c1, hfb]; exact o.f h
  ·rw [hnow, e, d4] at h; cases h
 ·
  have e : altT j a = filT j.now a.h a.b (fit a.text) := by unfold altT; rw [if_neg (by omega), if_neg (by omega), if_neg (by omega), if_pos hk]
  have hz : orE (orE (filE j.now a.h a.b (fit a.text)) (roleJ j a.b = 1) 8) (j.last < j.freed a.b) 9 = 0 := by have := he; unfold altE at this; rw [if_neg (by omega), if_neg (by omega), if_neg (by omega), if_pos hk] at this; exact this
  obtain ⟨z0, z9⟩ := orE_zero (by decide) hz
  obtain ⟨z1, z4⟩ := orE_zero (by decide) z0
  obtain ⟨z2, z3, z5⟩ := fil_zero z1
  have hb := (may_zero z2).2.2.2
  obtain ⟨d1, d2, d3, d4⟩ := fil_d z1 hg
  have hto : altTo j a = 2 := by unfold altTo; rw [if_neg (by omega), if_pos hk]
  obtain ⟨r1, r2⟩ := role_change he hb
  have hsq : (changeJ j a).1.now.seq = n + 1 := by rw [hnow, altT_seq]; exact hq
  have es : seeO k (changeJ j a).1 a (noR 0) = ⟨setL k.data a.b (k.data a.b ++ [⟨n + 1, fit a.text⟩]), (changeJ j a).1.down⟩ := by
   unfold seeO
   rw [if_neg (fun h => h rfl), if_neg (by omega), if_pos hk, hsq]
  rw [es]
  intro b hbb
  have hfb := hfr (by omega)
  by_cases hx : b = a.b
  rotate_left
  ·exact (v b hbb).other (setL_ne hx) c1 c6 (by rw [hnow, e]; exact d1.mt b hx) (by rw [hnow, e]; exact d1.dt b hx) (by rw [hnow, e]; exact d1.rev b hx) (by rw [hfb]) (r2 b hx) c4
  subst hx
  have o := v _ hbb
  obtain ⟨A, B, C, p1, p2, p3, p4, p5, p6, p7⟩ := o.ex
  have hsr : inI j.sealed.rev a.b = false := by
   cases hh : inI j.sealed.rev a.b with
   | false => rfl
   | true => exact absurd (o.f hh) z9
  have hnb : turnT j.sealed (newestB j.done a.b) a.b = none := by
   have := hV2.b a.b (by rw [hnow, e, hasB_get, d2]; rfl)
   rw [c6, c4] at this
   exact this
  have hsm : getC j.sealed.mt a.b = none := by
   cases hh : getC j.sealed.mt a.b with
   | none => rfl
   | some y => rw [turnT_some hh] at hnb; cases hnb
  rw [turnT_else hsm hsr] at hnb
  have e0 : setL k.data a.b (k.data a.b ++ [⟨n + 1, fit a.text⟩]) a.b = k.data a.b ++ [⟨n + 1, fit a.text⟩] := setL_self _ _ _
  have hne : k.data a.b ++ [(⟨n + 1, fit a.text⟩ : Got)] ≠ [] := by simp
  refine ⟨⟨A, B, C ++ [⟨n + 1, fit a.text⟩], ?_, ?_, ?_, ?_, p5, ?_, ?_⟩, fun h => ?_, fun _ => ?_, fun h => ?_, fun h => ?_⟩
  ·show setL k.data a.b _ a.b = _
   rw [e0, p1]; simp
  ·rw [c1]; exact p2
  ·rw [c1]; exact p3
  ·intro g hg
   rcases List.mem_append.1 hg with h | h
   ·exact p4 g h
   ·obtain rfl := List.mem_singleton.1 h; rfl
  ·intro _
   rw [c6]
   by_cases hl : k.data a.b = []
   ·have hB : B = [] := by
      have := congrArg List.length (hl.symm.trans p1)
      simp only [List.length_nil, List.length_append] at this
      exact List.eq_nil_of_length_eq_zero (by omega)
    rw [hB]
    rcases o.s0 hl with h | h
    ·exact h
    ·exact absurd h z9
   ·exact p6 hl
  ·rw [hnow, e, d2]; simp [lastT2]
  ·exact absurd (e0.symm.trans h) hne
  ·rw [r1, hto, hnow, e, d3, d4, c6, c4]
   exact ⟨rfl, ⟨getC_none z3, z5⟩, ⟨hsm, hsr⟩, hnb⟩
  ·rw [c6, hsr] at h; cases h
  ·rw [hnow, e, d4, z5] at h; cases h
 ·
  have e : altT j a = rvkT j.now a.h a.b := by unfold altT; rw [if_neg (by omega), if_neg (by omega), if_neg (by omega), if_neg (by omega)]
  have hz : orE (rvkE j.now a.h a.b) (roleJ j a.b = 0) 8 = 0 := by have := he; unfold altE at this; rw [if_neg (by omega), if_neg (by omega), if_neg (by omega), if_neg (by omega), if_pos hk] at this; exact this
  obtain ⟨z1, _⟩ := orE_zero (by decide) hz
  have hb := (may_zero (rvk_zero z1)).2.2.2
  obtain ⟨d1, d2, d3, d4⟩ := rvk_d z1
  obtain ⟨r1, r2⟩ := role_change he hb
  have hf : (changeJ j a).1.freed = setF j.freed a.b (altT j a).seq := by unfold changeJ; rw [if_pos he]; dsimp only; rw [if_pos hk]
  have es : seeO k (changeJ j a).1 a (noR 0) = ⟨setL k.data a.b [], (changeJ j a).1.down⟩ := by
   unfold seeO
   rw [if_neg (fun h => h rfl), if_pos (.inr hk)]
  rw [es]
  intro b hbb
  by_cases hx : b = a.b
  rotate_left
  ·exact (v b hbb).other (setL_ne hx) c1 c6 (by rw [hnow, e]; exact d1.mt b hx) (by rw [hnow, e]; exact d1.dt b hx) (by rw [hnow, e]; exact d1.rev b hx) (by rw [hf, setF_ne hx]) (r2 b hx) c4
  subst hx
  have hfb : (changeJ j a).1.freed a.b = n + 1 := by rw [hf, setF_self, altT_seq]; exact hq
  have e0 : setL k.data a.b [] a.b = [] := setL_self _ _ _
  refine ⟨⟨[], [], [], e0, (fun g h => nomatch h), (fun g h => nomatch h), (fun g h => nomatch h), (fun g h => nomatch h), (fun h => absurd e0 h), ?_⟩, fun _ => .inr ?_, fun h => absurd e0 h, fun h => ?_, fun h => ?_⟩
  ·rw [hnow, e]; exact d3
  ·rw [c1, hfb]; omega
  ·rw [c1, hfb]; omega
  ·rw [hfb]; omega
 ·
  have e : altT j a = stopT j.now a.h := by unfold altT; rw [if_neg (by omega), if_pos hk]
  have e2 : stopT j.now a.h = j.now \/ ∃ x, stopT j.now a.h = setH j.now a.h x := by unfold stopT; split; exact .inr ⟨_, rfl⟩; exact .inl rfl
  have e3 : (altT j a).mt = j.now.mt /\ (altT j a).dt = j.now.dt /\ (altT j a).rev = j.now.rev := by
   rw [e]
   rcases e2 with h | ⟨x, h⟩
   ·rw [h]; exact ⟨rfl, rfl, rfl⟩
   ·rw [h]; exact (setH_same _ _ _).2
  exact same e3.1 e3.2.1 e3.2.2 (by unfold altTo; rw [if_neg (by omega), if_neg (by omega), if_neg (by omega)]) (.inr hk)
end Wb
