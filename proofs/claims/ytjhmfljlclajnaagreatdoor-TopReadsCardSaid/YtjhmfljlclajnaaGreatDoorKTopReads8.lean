/- Parts of the proof: JwI JwJ JnA JwK SeqV Play PlayW IMap MapL JnV JnW. -/
import Derived.Test.YtjhmfljlclajnaaGreatDoorKTopReads4
import Derived.Test.YtjhmfljlclajnaaGreatDoorKTopReads5
import Derived.Test.YtjhmfljlclajnaaGreatDoorKTopReads7
import Derived.Test.YtjhmfljlclajnaaGreatDoorKTopReads2
import Derived.Test.YtjhmfljlclajnaaGreatDoorKTopReads3
import Derived.Test.YtjhmfljlclajnaaGreatDoorUBase
import Derived.MapKept
import Derived.ChangeMaps5
import Derived.Carry
import Derived.Maps.OwnOps
import Derived.Test.YtjhmfljlclajnaaGreatDoorKTopReads6
set_option linter.unusedVariables false
set_option linter.unusedSimpArgs false
namespace Wb
open Go Go.RowKit
theorem permJ {α : Type} (a b c : α) (D L : List α) : (a :: b :: c :: (D ++ L)).Perm (c :: (D ++ (a :: b :: L))) := by
 have h1 : (a :: b :: c :: (D ++ L)).Perm (c :: a :: b :: (D ++ L)) := (List.perm_append_comm (l₁ := [a, b]) (l₂ := [c])).append_right _
 exact h1.trans ((List.perm_append_comm_assoc [a, b] D L).cons c)
theorem permB {α : Type} (a b : α) (M L : List α) : (M ++ (a :: b :: L)).Perm (a :: b :: (M ++ L)) := (List.perm_append_comm_assoc [a, b] M L).symm
theorem JFm.acts {Tt Ti : TypeId} {v : JV} {j : Jn} {ds fs : List TV} {MD MU : List Ent} (h : JFm Tt Ti v j ds fs MD MU) (n : Int) : JFm Tt Ti v { j with acts := n } ds fs MD MU := ⟨h.dn, h.us, h.dmap, h.fmap, h.dfit, h.ffit, h.inv.acts n, h.sz⟩
end Wb
namespace Go.Proofs.YtjhmfljlclajnaaGreatDoor
open Go.RowKit Wb
set_option maxRecDepth 100000
set_option maxHeartbeats 16000000
theorem jr_noD (c : Int) (w : World) :
    Calls Tryz.prog 12 #[.int .i64 c] w fun e w' => e = .returned (.agg #[.int .i64 c, .int .i64 0, .string ⟨#[]⟩]) ∧ Below w.heap.size w w' := by
 have X : St [] w w [] [] := St.start [] w
 go_enter Tryz.func12, Tryz.ntmps12
 go_wp2_with (first
  | (refine ZyL ?_) | (refine ZyS ?_; clear X; intro w X) | (refine ZyA ?_; clear X; intro g w X))
 exact m_ret1 rfl (.tmp rfl rfl) X (.head _) rfl rfl ⟨rfl, X.below⟩
theorem jr_Do (K : JK) {S : List Nat} {w0 w : World} {L : List Ent} {R : List Rd} {gj : Nat} {j : Jn} {M : List Ent} {Rj : List Rd} (F : JF gj j M Rj) (X : St S w0 w (M ++ L) (Rj ++ R)) (hF : flR 0 ∈ R) (a : Aj) (hs : a.text.size ≤ 9223372036854775807) (hn : a.n ≤ 9223372036854775807) (ha : 0 ≤ j.acts) :
    Calls Tryz.prog 8 #[.pointer (some ⟨gj, 0, none⟩), .agg #[.int .i64 a.kind, .int .i64 a.h, .int .i64 a.b, .int .i64 a.n, .string a.text]] w fun e w' => ∃ M' Rj', e = .returned (doJ j a).2.val ∧ JF gj (doJ j a).1 M' Rj' ∧ St S w0 w' (M' ++ L) (Rj' ++ R) := by
 obtain ⟨v, ds, fs, MD, MU, hm, rfl, rfl⟩ := F
 rw [List.cons_append] at X
 unfold jCells at X
 have hNo := fun c w => jr_noD c w
 replace hNo := hid hNo
 by_cases h4 : 400 ≤ j.acts
 ·have hD : doJ j a = (j, noR 11) := by unfold doJ; rw [if_pos h4]
  replace hD := hid hD; replace hm := hid hm
  go_enter Tryz.func8, Tryz.ntmps8
  go_upto_region 1 with (first
   | (refine Zbx ?_; clear X; intro g w X)
   | (refine ZyL ?_) | (refine ZyS ?_; clear X; intro w X) | (refine ZyA ?_; clear X; intro g w X))
  go_wp2_with (first
   | (refine ZyL ?_) | (refine ZyS ?_; clear X; intro w X) | (refine ZyA ?_; clear X; intro g w X)
   | (go_at_call 12; go_loud ((with_reducible refine (hNo.out _ _).mono ?_); rintro e w1 ⟨rfl, hb1⟩; replace X := X.call hb1; clear hb1)))
  refine m_ret1 rfl (.tmp rfl rfl) X (.head _) rfl rfl ?_
  rw [hD.out]
  first
   | exact ⟨_, _, rfl, ⟨v, ds, fs, MD, MU, hm.out, rfl, rfl⟩, X.sub (List.Sublist.cons _ (List.sublist_cons_self _ _))⟩
   | exact ⟨rfl, _, _, ⟨v, ds, fs, MD, MU, hm.out, rfl, rfl⟩, X.sub (List.Sublist.cons _ (List.sublist_cons_self _ _))⟩
 ·have hw4 : IntKind.i64.wrap (j.acts + 1) = j.acts + 1 := IntWalk.i64_in _ (by omega)
  have hm1 := hm.acts (j.acts + 1)
  replace hm := hid hm; replace hm1 := hid hm1
  have F1 : JF gj { j with acts := j.acts + 1 } (⟨gj, jCells v { j with acts := j.acts + 1 }, 61⟩ :: (MD ++ MU)) (jRds v { j with acts := j.acts + 1 } ds fs) := ⟨v, ds, fs, MD, MU, hm1.out, rfl, rfl⟩
  replace F1 := hid F1
  by_cases hlo : a.kind < 1
  ·have hD : doJ j a = ({ j with acts := j.acts + 1 }, noR 3) := by unfold doJ; rw [if_neg h4, if_pos (.inl hlo)]
   replace hD := hid hD
   go_enter Tryz.func8, Tryz.ntmps8
   go_upto_region 1 with (first
    | (refine Zbx ?_; clear X; intro g w X)
    | (refine ZyL ?_) | (refine ZyS ?_; clear X; intro w X) | (refine ZyA ?_; clear X; intro g w X))
   go_wp2_with (first
    | (refine ZyL ?_) | (refine ZyS ?_; clear X; intro w X) | (refine ZyA ?_; clear X; intro g w X)
    | (go_at_call 12; go_loud ((with_reducible refine (hNo.out _ _).mono ?_); rintro e w1 ⟨rfl, hb1⟩; replace X := X.call hb1; clear hb1)))
   refine m_ret1 rfl (.tmp rfl rfl) X (.head _) rfl rfl ?_
   rw [hD.out]
   first
    | exact ⟨_, _, rfl, F1.out, X.sub (List.Sublist.cons _ (List.sublist_cons_self _ _))⟩
    | exact ⟨rfl, _, _, F1.out, X.sub (List.Sublist.cons _ (List.sublist_cons_self _ _))⟩
  by_cases hhi : 11 < a.kind
  ·have hD : doJ j a = ({ j with acts := j.acts + 1 }, noR 3) := by unfold doJ; rw [if_neg h4, if_pos (.inr hhi)]
   replace hD := hid hD
   go_enter Tryz.func8, Tryz.ntmps8
   go_upto_region 1 with (first
    | (refine Zbx ?_; clear X; intro g w X)
    | (refine ZyL ?_) | (refine ZyS ?_; clear X; intro w X) | (refine ZyA ?_; clear X; intro g w X))
   go_wp2_with (first
    | (refine ZyL ?_) | (refine ZyS ?_; clear X; intro w X) | (refine ZyA ?_; clear X; intro g w X)
    | (go_at_call 12; go_loud ((with_reducible refine (hNo.out _ _).mono ?_); rintro e w1 ⟨rfl, hb1⟩; replace X := X.call hb1; clear hb1)))
   refine m_ret1 rfl (.tmp rfl rfl) X (.head _) rfl rfl ?_
   rw [hD.out]
   first
    | exact ⟨_, _, rfl, F1.out, X.sub (List.Sublist.cons _ (List.sublist_cons_self _ _))⟩
    | exact ⟨rfl, _, _, F1.out, X.sub (List.Sublist.cons _ (List.sublist_cons_self _ _))⟩
  have hkk : ¬ (a.kind < 1 ∨ 11 < a.kind) := by omega
  by_cases k10 : a.kind = 10
  ·have hD : doJ j a = noJ (crashJ { j with acts := j.acts + 1 } a.n) := by unfold doJ; rw [if_neg h4, if_neg hkk, if_pos k10]
   replace hD := hid hD
   have f10 : (a.kind == 10) = true := by rw [k10]; rfl
   go_enter Tryz.func8, Tryz.ntmps8
   go_upto_region 1 with (first
    | (refine Zbx ?_; clear X; intro g w X)
    | (refine ZyL ?_) | (refine ZyS ?_; clear X; intro w X) | (refine ZyA ?_; clear X; intro g w X))
   go_upto_region 10 with (first
    | (refine ZyL ?_) | (refine ZyS ?_; clear X; intro w X) | (refine ZyA ?_; clear X; intro g w X))
   have hC := hid (jr_crash K F1.out (X.perm (permJ _ _ _ _ _)) a.n hn)
   go_wp2_with (first
    | (refine ZyL ?_) | (refine ZyS ?_; clear X; intro w X) | (refine ZyA ?_; clear X; intro g w X)
    | (go_at_call 13; go_loud ((with_reducible refine (hC.out).mono ?_); rintro e w1 ⟨M2, R2, rfl, F2, X2⟩; replace X := X2.perm (permB _ _ _ _); clear X2))
    | (go_at_call 12; go_loud ((with_reducible refine (hNo.out _ _).mono ?_); rintro e w1 ⟨rfl, hb1⟩; replace X := X.call hb1; clear hb1)))
   refine m_ret1 rfl (.tmp rfl rfl) X (.head _) rfl rfl ?_
   rw [hD.out]
   first
    | exact ⟨_, _, rfl, F2, X.sub (List.Sublist.cons _ (List.sublist_cons_self _ _))⟩
    | exact ⟨rfl, _, _, F2, X.sub (List.Sublist.cons _ (List.sublist_cons_self _ _))⟩
  by_cases k11 : a.kind = 11
  ·have hD : doJ j a = noJ (beginJ { j with acts := j.acts + 1 }) := by unfold doJ; rw [if_neg h4, if_neg hkk, if_neg k10, if_pos k11]
   replace hD := hid hD
   have f10 : (a.kind == 10) = false := beq_eq_false_iff_ne.2 k10
   have f11 : (a.kind == 11) = true := by rw [k11]; rfl
   go_enter Tryz.func8, Tryz.ntmps8
   go_upto_region 1 with (first
    | (refine Zbx ?_; clear X; intro g w X)
    | (refine ZyL ?_) | (refine ZyS ?_; clear X; intro w X) | (refine ZyA ?_; clear X; intro g w X))
   go_upto_region 12 with (first
    | (refine ZyL ?_) | (refine ZyS ?_; clear X; intro w X) | (refine ZyA ?_; clear X; intro g w X))
   have hC := hid (jr_begin K F1.out (X.perm (permJ _ _ _ _ _)) hF)
   go_wp2_with (first
    | (refine ZyL ?_) | (refine ZyS ?_; clear X; intro w X) | (refine ZyA ?_; clear X; intro g w X)
    | (go_at_call 14; go_loud ((with_reducible refine (hC.out).mono ?_); rintro e w1 ⟨M2, R2, rfl, F2, X2⟩; replace X := X2.perm (permB _ _ _ _); clear X2))
    | (go_at_call 12; go_loud ((with_reducible refine (hNo.out _ _).mono ?_); rintro e w1 ⟨rfl, hb1⟩; replace X := X.call hb1; clear hb1)))
   refine m_ret1 rfl (.tmp rfl rfl) X (.head _) rfl rfl ?_
   rw [hD.out]
   first
    | exact ⟨_, _, rfl, F2, X.sub (List.Sublist.cons _ (List.sublist_cons_self _ _))⟩
    | exact ⟨rfl, _, _, F2, X.sub (List.Sublist.cons _ (List.sublist_cons_self _ _))⟩
  by_cases k8 : a.kind = 8
  ·have hD : doJ j a = stepJ { j with acts := j.acts + 1 } := by unfold doJ; rw [if_neg h4, if_neg hkk, if_neg k10, if_neg k11, if_pos k8]
   replace hD := hid hD
   have f10 : (a.kind == 10) = false := beq_eq_false_iff_ne.2 k10
   have f11 : (a.kind == 11) = false := beq_eq_false_iff_ne.2 k11
   have f8 : (a.kind == 8) = true := by rw [k8]; rfl
   go_enter Tryz.func8, Tryz.ntmps8
   go_upto_region 1 with (first
    | (refine Zbx ?_; clear X; intro g w X)
    | (refine ZyL ?_) | (refine ZyS ?_; clear X; intro w X) | (refine ZyA ?_; clear X; intro g w X))
   go_upto_region 14 with (first
    | (refine ZyL ?_) | (refine ZyS ?_; clear X; intro w X) | (refine ZyA ?_; clear X; intro g w X))
   have hC := hid (jr_step K F1.out (X.perm (permJ _ _ _ _ _)))
   go_wp2_with (first
    | (refine ZyL ?_) | (refine ZyS ?_; clear X; intro w X) | (refine ZyA ?_; clear X; intro g w X)
    | (go_at_call 15; go_loud ((with_reducible refine (hC.out).mono ?_); rintro e w1 ⟨M2, R2, rfl, F2, X2⟩; replace X := X2.perm (permB _ _ _ _); clear X2)))
   refine m_ret1 rfl (.tmp rfl rfl) X (.head _) rfl rfl ?_
   rw [hD.out]
   first
    | exact ⟨_, _, rfl, F2, X.sub (List.Sublist.cons _ (List.sublist_cons_self _ _))⟩
    | exact ⟨rfl, _, _, F2, X.sub (List.Sublist.cons _ (List.sublist_cons_self _ _))⟩
  by_cases hd : j.down = true
  ·have hD : doJ j a = ({ j with acts := j.acts + 1 }, noR 10) := by unfold doJ; rw [if_neg h4, if_neg hkk, if_neg k10, if_neg k11, if_neg k8, if_pos hd]
   replace hD := hid hD
   have f10 : (a.kind == 10) = false := beq_eq_false_iff_ne.2 k10
   have f11 : (a.kind == 11) = false := beq_eq_false_iff_ne.2 k11
   have f8 : (a.kind == 8) = false := beq_eq_false_iff_ne.2 k8
   obtain ⟨jx1, jx2, jx3, jx4, jx5, jx6, jx7, jx8, jx9, jx10, jx11, jx12, jx13, jx14, jx15, jx16⟩ := j
   dsimp only at hd X
   subst hd
   go_enter Tryz.func8, Tryz.ntmps8
   go_upto_region 1 with (first
    | (refine Zbx ?_; clear X; intro g w X)
    | (refine ZyL ?_) | (refine ZyS ?_; clear X; intro w X) | (refine ZyA ?_; clear X; intro g w X))
   go_wp2_with (first
    | (refine ZyL ?_) | (refine ZyS ?_; clear X; intro w X) | (refine ZyA ?_; clear X; intro g w X)
    | (go_at_call 12; go_loud ((with_reducible refine (hNo.out _ _).mono ?_); rintro e w1 ⟨rfl, hb1⟩; replace X := X.call hb1; clear hb1)))
   refine m_ret1 rfl (.tmp rfl rfl) X (.head _) rfl rfl ?_
   rw [hD.out]
   first
    | exact ⟨_, _, rfl, F1.out, X.sub (List.Sublist.cons _ (List.sublist_cons_self _ _))⟩
    | exact ⟨rfl, _, _, F1.out, X.sub (List.Sublist.cons _ (List.sublist_cons_self _ _))⟩
  have hdf : j.down = false := by simpa using hd
  by_cases k6 : a.kind = 6
  ·have hD : doJ j a = commitJ { j with acts := j.acts + 1 } := by unfold doJ; rw [if_neg h4, if_neg hkk, if_neg k10, if_neg k11, if_neg k8, if_neg hd, if_pos k6]
   replace hD := hid hD
   have f10 : (a.kind == 10) = false := beq_eq_false_iff_ne.2 k10
   have f11 : (a.kind == 11) = false := beq_eq_false_iff_ne.2 k11
   have f8 : (a.kind == 8) = false := beq_eq_false_iff_ne.2 k8
   have f6 : (a.kind == 6) = true := by rw [k6]; rfl
   obtain ⟨jx1, jx2, jx3, jx4, jx5, jx6, jx7, jx8, jx9, jx10, jx11, jx12, jx13, jx14, jx15, jx16⟩ := j
   dsimp only at hdf X
   subst hdf
   go_enter Tryz.func8, Tryz.ntmps8
   go_upto_region 1 with (first
    | (refine Zbx ?_; clear X; intro g w X)
    | (refine ZyL ?_) | (refine ZyS ?_; clear X; intro w X) | (refine ZyA ?_; clear X; intro g w X))
   go_upto_region 19 with (first
    | (refine ZyL ?_) | (refine ZyS ?_; clear X; intro w X) | (refine ZyA ?_; clear X; intro g w X))
   have hC := hid (jr_commit K F1.out (X.perm (permJ _ _ _ _ _)) hF rfl)
   go_wp2_with (first
    | (refine ZyL ?_) | (refine ZyS ?_; clear X; intro w X) | (refine ZyA ?_; clear X; intro g w X)
    | (go_at_call 16; go_loud ((with_reducible refine (hC.out).mono ?_); rintro e w1 ⟨M2, R2, rfl, F2, X2⟩; replace X := X2.perm (permB _ _ _ _); clear X2)))
   refine m_ret1 rfl (.tmp rfl rfl) X (.head _) rfl rfl ?_
   rw [hD.out]
   first
    | exact ⟨_, _, rfl, F2, X.sub (List.Sublist.cons _ (List.sublist_cons_self _ _))⟩
    | exact ⟨rfl, _, _, F2, X.sub (List.Sublist.cons _ (List.sublist_cons_self _ _))⟩
  by_cases k7 : a.kind = 7
  ·have hD : doJ j a = noJ (checkJ { j with acts := j.acts + 1 }) := by unfold doJ; rw [if_neg h4, if_neg hkk, if_neg k10, if_neg k11, if_neg k8, if_neg hd, if_neg k6, if_pos k7]
   replace hD := hid hD
   have f10 : (a.kind == 10) = false := beq_eq_false_iff_ne.2 k10
   have f11 : (a.kind == 11) = false := beq_eq_false_iff_ne.2 k11
   have f8 : (a.kind == 8) = false := beq_eq_false_iff_ne.2 k8
   have f6 : (a.kind == 6) = false := beq_eq_false_iff_ne.2 k6
   have f7 : (a.kind == 7) = true := by rw [k7]; rfl
   obtain ⟨jx1, jx2, jx3, jx4, jx5, jx6, jx7, jx8, jx9, jx10, jx11, jx12, jx13, jx14, jx15, jx16⟩ := j
   dsimp only at hdf X
   subst hdf
   go_enter Tryz.func8, Tryz.ntmps8
   go_upto_region 1 with (first
    | (refine Zbx ?_; clear X; intro g w X)
    | (refine ZyL ?_) | (refine ZyS ?_; clear X; intro w X) | (refine ZyA ?_; clear X; intro g w X))
   go_upto_region 21 with (first
    | (refine ZyL ?_) | (refine ZyS ?_; clear X; intro w X) | (refine ZyA ?_; clear X; intro g w X))
   have hC := hid (jr_check K F1.out (X.perm (permJ _ _ _ _ _)) hF)
   go_wp2_with (first
    | (refine ZyL ?_) | (refine ZyS ?_; clear X; intro w X) | (refine ZyA ?_; clear X; intro g w X)
    | (go_at_call 17; go_loud ((with_reducible refine (hC.out).mono ?_); rintro e w1 ⟨M2, R2, rfl, F2, X2⟩; replace X := X2.perm (permB _ _ _ _); clear X2))
    | (go_at_call 12; go_loud ((with_reducible refine (hNo.out _ _).mono ?_); rintro e w1 ⟨rfl, hb1⟩; replace X := X.call hb1; clear hb1)))
   refine m_ret1 rfl (.tmp rfl rfl) X (.head _) rfl rfl ?_
   rw [hD.out]
   first
    | exact ⟨_, _, rfl, F2, X.sub (List.Sublist.cons _ (List.sublist_cons_self _ _))⟩
    | exact ⟨rfl, _, _, F2, X.sub (List.Sublist.cons _ (List.sublist_cons_self _ _))⟩
  by_cases k9 : a.kind = 9
  ·have hD : doJ j a = ({ j with acts := j.acts + 1 }, readJ { j with acts := j.acts + 1 } a.b) := by unfold doJ; rw [if_neg h4, if_neg hkk, if_neg k10, if_neg k11, if_neg k8, if_neg hd, if_neg k6, if_neg k7, if_pos k9]
   replace hD := hid hD
   have f10 : (a.kind == 10) = false := beq_eq_false_iff_ne.2 k10
   have f11 : (a.kind == 11) = false := beq_eq_false_iff_ne.2 k11
   have f8 : (a.kind == 8) = false := beq_eq_false_iff_ne.2 k8
   have f6 : (a.kind == 6) = false := beq_eq_false_iff_ne.2 k6
   have f7 : (a.kind == 7) = false := beq_eq_false_iff_ne.2 k7
   have f9 : (a.kind == 9) = true := by rw [k9]; rfl
   obtain ⟨jx1, jx2, jx3, jx4, jx5, jx6, jx7, jx8, jx9, jx10, jx11, jx12, jx13, jx14, jx15, jx16⟩ := j
   dsimp only at hdf X
   subst hdf
   go_enter Tryz.func8, Tryz.ntmps8
   go_upto_region 1 with (first
    | (refine Zbx ?_; clear X; intro g w X)
    | (refine ZyL ?_) | (refine ZyS ?_; clear X; intro w X) | (refine ZyA ?_; clear X; intro g w X))
   go_upto_region 23 with (first
    | (refine ZyL ?_) | (refine ZyS ?_; clear X; intro w X) | (refine ZyA ?_; clear X; intro g w X))
   have hC := hid (jr_read K F1.out (X.perm (permJ _ _ _ _ _)) a.b)
   go_wp2_with (first
    | (refine ZyL ?_) | (refine ZyS ?_; clear X; intro w X) | (refine ZyA ?_; clear X; intro g w X)
    | (go_at_call 18; go_loud ((with_reducible refine (hC.out).mono ?_); rintro e w1 ⟨M2, R2, rfl, F2, X2⟩; replace X := X2.perm (permB _ _ _ _); clear X2)))
   refine m_ret1 rfl (.tmp rfl rfl) X (.head _) rfl rfl ?_
   rw [hD.out]
   first
    | exact ⟨_, _, rfl, F2, X.sub (List.Sublist.cons _ (List.sublist_cons_self _ _))⟩
    | exact ⟨rfl, _, _, F2, X.sub (List.Sublist.cons _ (List.sublist_cons_self _ _))⟩
  have hD : doJ j a = noJ (changeJ { j with acts := j.acts + 1 } a) := by unfold doJ; rw [if_neg h4, if_neg hkk, if_neg k10, if_neg k11, if_neg k8, if_neg hd, if_neg k6, if_neg k7, if_neg k9]
  replace hD := hid hD
  have f10 : (a.kind == 10) = false := beq_eq_false_iff_ne.2 k10
  have f11 : (a.kind == 11) = false := beq_eq_false_iff_ne.2 k11
  have f8 : (a.kind == 8) = false := beq_eq_false_iff_ne.2 k8
  have f6 : (a.kind == 6) = false := beq_eq_false_iff_ne.2 k6
  have f7 : (a.kind == 7) = false := beq_eq_false_iff_ne.2 k7
  have f9 : (a.kind == 9) = false := beq_eq_false_iff_ne.2 k9
  obtain ⟨jx1, jx2, jx3, jx4, jx5, jx6, jx7, jx8, jx9, jx10, jx11, jx12, jx13, jx14, jx15, jx16⟩ := j
  dsimp only at hdf X
  subst hdf
  go_enter Tryz.func8, Tryz.ntmps8
  go_upto_region 1 with (first
   | (refine Zbx ?_; clear X; intro g w X)
   | (refine ZyL ?_) | (refine ZyS ?_; clear X; intro w X) | (refine ZyA ?_; clear X; intro g w X))
  go_upto_region 24 with (first
   | (refine ZyL ?_) | (refine ZyS ?_; clear X; intro w X) | (refine ZyA ?_; clear X; intro g w X))
  have hC := hid (jr_change K F1.out (X.perm (permJ _ _ _ _ _)) a hs (by omega) rfl)
  go_wp2_with (first
   | (refine ZyL ?_) | (refine ZyS ?_; clear X; intro w X) | (refine ZyA ?_; clear X; intro g w X)
   | (go_at_call 19; go_loud ((with_reducible refine (hC.out).mono ?_); rintro e w1 ⟨M2, R2, rfl, F2, X2⟩; replace X := X2.perm (permB _ _ _ _); clear X2))
   | (go_at_call 12; go_loud ((with_reducible refine (hNo.out _ _).mono ?_); rintro e w1 ⟨rfl, hb1⟩; replace X := X.call hb1; clear hb1)))
  refine m_ret1 rfl (.tmp rfl rfl) X (.head _) rfl rfl ?_
  rw [hD.out]
  first
   | exact ⟨_, _, rfl, F2, X.sub (List.Sublist.cons _ (List.sublist_cons_self _ _))⟩
   | exact ⟨rfl, _, _, F2, X.sub (List.Sublist.cons _ (List.sublist_cons_self _ _))⟩
theorem mem2J {α : Type} {a b r : α} {R : List α} (h : r ∈ [a, b]) : r ∈ a :: b :: R := by
 rcases List.mem_cons.1 h with rfl | h
 ·exact .head _
 ·rcases List.mem_singleton.1 h with rfl; exact .tail _ (.head _)
theorem rdisk0 {w : World} {a1 : Option Addr} {c1 : Nat} (h1 : RL strC w (.slice a1 newDsk0.safe.length c1) newDsk0.safe) : RDisk w (.agg #[.slice a1 newDsk0.safe.length c1, .slice none 0 0]) newDsk0 := ⟨_, _, rfl, h1, RL.nil _ _, by decide, by decide⟩
theorem jr_New (K : JK) {S : List Nat} {w0 w : World} {L : List Ent} {R : List Rd} (X : St S w0 w L R) :
    Calls Tryz.prog 10 #[] w fun e w' => ∃ g M Rj, e = .returned (.pointer (some ⟨g, 0, none⟩)) ∧ JF g newJ M Rj ∧ St S w0 w' (M ++ L) (Rj ++ R) := by
 have hNw := fun w => K.dnew w
 have hEn := fun w => K.enc (superM 1 0) (.agg #[.int .i64 1, .int .i64 1, .int .i64 0, .slice none 0 0, .slice none 0 0]) w ⟨_, _, rfl, RL.nil _ _, RL.nil _ _, by decide, by decide⟩
 have hPu := fun v w (h : RDisk w v newDsk0) => K.put newDsk0 0 (markS (superM 1 0)) v w h
 have hFl := fun v w (h : RDisk w v (putD newDsk0 0 (markS (superM 1 0)))) => K.flush (putD newDsk0 0 (markS (superM 1 0))) v w h
 have hD : flushD (putD newDsk0 0 (markS (superM 1 0))) = newDsk := rfl
 have hI := inv_new
 have hg0 : goodD newDsk0 = true := by
  refine (goodD_iff _).2 ⟨by simp [newDsk0], by decide, ?_, rfl⟩
  rw [List.all_eq_true]
  intro s hs
  rw [List.eq_of_mem_replicate hs]
  unfold ok32
  rw [fit_size]; rfl
 have hm := dec_mark (super_good (q := 1) (a := 0) (by decide) (by decide))
 have hp : putE newDsk0 0 (markS (superM 1 0)) = 0 := putE_one hg0 (by decide) hm.2.2 (by decide)
 have hg1 := put_good hp
 rw [hD] at hFl
 have hD0 : newDsk0.safe = List.replicate 37 (fit ⟨#[]⟩) := rfl
 rw [← hD0] at hNw
 generalize markE (superM 1 0) = mE at *
 generalize markS (superM 1 0) = mS at *
 generalize putE newDsk0 0 mS = pE at *
 generalize putD newDsk0 0 mS = D1 at *
 generalize flushE D1 = fE at *
 have hJ : newJ = { zeroJ newDsk 0 0 with now := txn0 1 } := rfl
 clear hD hm hp hD0 hg0
 replace hNw := hid hNw; replace hEn := hid hEn; replace hPu := hid hPu; replace hFl := hid hFl; replace hI := hid hI
 go_enter Tryz.func10, Tryz.ntmps10
 go_wp2_with (first
  | (refine Zbx ?_; clear X; intro g w X)
  | (refine ZyL ?_) | (refine ZyS ?_; clear X; intro w X) | (refine ZyA ?_; clear X; intro g w X)
  | (go_at_call 20; go_loud ((with_reducible refine (hNw.out _).mono ?_); rintro e w1 ⟨vs, rfl, ho1, hb1⟩; obtain ⟨a1, c1, rfl⟩ := ho1.form; replace X := (X.addOwn hb1 (ho1.mono (by omega))).addNil; clear hb1 ho1))
  | (go_at_call 21; go_loud ((with_reducible refine (hEn.out _).mono ?_); rintro e w1 ⟨rfl, hb1⟩; replace X := X.call hb1; clear hb1))
  | (go_at_call 22; go_loud ((with_reducible refine (hPu.out _ _ (rdisk0 (X.read (List.Mem.tail _ (List.Mem.head _))))).mono ?_); rintro e w1 ⟨v1, rfl, hr1, hn1, hb1⟩; obtain ⟨as2, cs2, aw2, cw2, rfl, X2⟩ := X.addNewD (as_ := a1) (cs := c1) (aw := none) (cw := 0) hb1 hn1 (fun r hr => by simp only [dskR, List.mem_cons, List.not_mem_nil, or_false] at hr; rcases hr with rfl | rfl; exact .tail _ (.head _); exact .head _); replace X := X2; clear X2 hb1 hn1 hr1))
  | (go_at_call 23; go_loud ((with_reducible refine (hFl.out _ _ (X.dsk (goodD_len hg1).1 (goodD_len hg1).2)).mono ?_); rintro e w1 ⟨v1, rfl, hr1, hn1, hb1⟩; obtain ⟨as3, cs3, aw3, cw3, rfl, X2⟩ := X.addNewD hb1 hn1 (fun r hr => mem2J hr); replace X := X2; clear X2 hb1 hn1 hr1)))
 go_ret
 refine ⟨_, _, _, rfl, ⟨zeroV ⟨as3, cs3⟩ ⟨aw3, cw3⟩, [], [], [], [], ⟨.nil _ _ _, .nil _ _ _, rfl, rfl, (fun x hx => by cases hx), (fun x hx => by cases hx), hI.out, ⟨Nat.zero_le _, Nat.zero_le _⟩⟩, rfl, rfl⟩, ?_⟩
 exact X.jZero rfl rfl rfl rfl (List.Sublist.refl _) (fun r hr => .tail _ (.tail _ (.tail _ (.tail _ hr))))
end Go.Proofs.YtjhmfljlclajnaaGreatDoor
namespace Wb
open Go Go.RowKit
def alA : Aj := ⟨1, 0, 0, 2, ⟨#[]⟩⟩
def alB : Aj := ⟨2, 0, 3, 0, ⟨#[120]⟩⟩
def alC : Aj := ⟨9, 0, 3, 0, ⟨#[]⟩⟩
def alD : Aj := ⟨6, 0, 0, 0, ⟨#[]⟩⟩
def alJ1 : Jn := (doJ newJ alA).1
def alJ2 : Jn := (doJ alJ1 alB).1
def alJ3 : Jn := (doJ alJ2 alC).1
theorem al_A : (doJ newJ alA).2.code = 0 := by decide +kernel
theorem al_B : (doJ alJ1 alB).2.code = 0 := by decide +kernel
theorem al_Cn : (doJ alJ2 alC).2.n = 1 := by decide +kernel
theorem al_Ct : (doJ alJ2 alC).2.text = fit ⟨#[120]⟩ := by rfl
theorem al_D : (doJ alJ3 alD).2.code = 9 := by decide +kernel
variable {S : List Nat} {w0 w : World} {L : List Ent} {R R2 : List Rd}
theorem St.lessR (X : St S w0 w L (R2 ++ R)) : St S w0 w L R := ⟨X.mv, X.nd, X.blk, X.own, fun r hr => X.rd r (List.mem_append_right _ hr)⟩
theorem perm1J {α : Type} (a : α) (M L : List α) : (a :: (M ++ L)).Perm (M ++ (a :: L)) := List.perm_append_comm_assoc [a] M L
theorem perm2J {α : Type} (a b : α) (M L : List α) : (a :: b :: (M ++ L)).Perm (M ++ (a :: b :: L)) := List.perm_append_comm_assoc [a, b] M L
theorem perm3J {α : Type} (a b c : α) (M L : List α) : (a :: b :: c :: (M ++ L)).Perm (M ++ (a :: b :: c :: L)) := List.perm_append_comm_assoc [a, b, c] M L
theorem rep_code {r : Rep} {c : Int} (h : r.code = c) : r = ⟨c, r.n, r.text⟩ := by cases r; cases h; rfl
theorem rep_nt {r : Rep} {n : Int} {t : ByteArray} (h : r.n = n) (h2 : r.text = t) : r = ⟨r.code, n, t⟩ := by cases r; cases h; cases h2; rfl
theorem acts_ge {j : Jn} (a : Aj) (h : 0 ≤ j.acts) : 0 ≤ (doJ j a).1.acts := by
 rw [acts_do]; split <;> omega
theorem new_acts : 0 ≤ newJ.acts := by decide
end Wb
namespace Go.Proofs.YtjhmfljlclajnaaGreatDoor
open Go.RowKit Wb
set_option maxRecDepth 100000
set_option maxHeartbeats 16000000
theorem jr_DoA (K : JK) {S : List Nat} {w0 w : World} {L : List Ent} {R : List Rd} {gj : Nat} {j : Jn} {M : List Ent} {Rj : List Rd} (F : JF gj j M Rj) (X : St S w0 w (M ++ L) (Rj ++ R)) (hF : flR 0 ∈ R) (a : Aj) (hs : a.text.size ≤ 9223372036854775807) (hn : a.n ≤ 9223372036854775807) (ha : 0 ≤ j.acts) (vs : List Value) (hv : ajC a = vs) {c n : Int} {t : ByteArray} (hr : (doJ j a).2 = ⟨c, n, t⟩) :
    Calls Tryz.prog 8 #[.pointer (some ⟨gj, 0, none⟩), .agg vs.toArray] w fun e w' => ∃ M' Rj', e = .returned (.agg #[.int .i64 c, .int .i64 n, .string t]) ∧ JF gj (doJ j a).1 M' Rj' ∧ St S w0 w' (M' ++ L) (Rj' ++ R) := by
 subst hv
 refine (jr_Do K F X hF a hs hn ha).mono ?_
 rintro e w' ⟨M', Rj', rfl, hJ, hX⟩
 exact ⟨M', Rj', by rw [hr]; rfl, hJ, hX⟩
theorem jr_alive (K : JK) {S : List Nat} {w0 w : World} {L : List Ent} {R : List Rd} (X : St S w0 w L R) (hF : flR 0 ∈ R) :
    Calls Tryz.prog 9 #[] w fun e w' => e = .returned (.bool true) ∧ St S w0 w' L R := by
 have hFi := fun w => K.fit ⟨#[120]⟩ w (by decide)
 have r1 := rep_code al_A
 have r2 := rep_code al_B
 have r3 := rep_nt al_Cn al_Ct
 have r4 := rep_code al_D
 have a1 : 0 ≤ alJ1.acts := acts_ge alA new_acts
 have a2 : 0 ≤ alJ2.acts := acts_ge alB a1
 have a3 : 0 ≤ alJ3.acts := acts_ge alC a2
 generalize (doJ newJ alA).2.n = n1, (doJ newJ alA).2.text = t1 at r1
 generalize (doJ alJ1 alB).2.n = n2, (doJ alJ1 alB).2.text = t2 at r2
 generalize (doJ alJ2 alC).2.code = c3 at r3
 generalize (doJ alJ3 alD).2.n = n4, (doJ alJ3 alD).2.text = t4 at r4
 generalize fit ⟨#[120]⟩ = tx at hFi r3
 have tx1 : (tx.toList == tx.toList) = true := by simp
 replace hFi := hid hFi; replace r1 := hid r1; replace r2 := hid r2; replace r3 := hid r3; replace r4 := hid r4
 replace a1 := hid a1; replace a2 := hid a2; replace a3 := hid a3
 have hN := hid (jr_New K X)
 go_enter Tryz.func9, Tryz.ntmps9
 go_upto_region 4 with (first
  | (refine ZyL ?_) | (refine ZyS ?_; clear X; intro w X) | (refine ZyA ?_; clear X; intro g w X)
  | (go_at_call 10; go_loud ((with_reducible refine (hN.out).mono ?_); rintro e w1 ⟨g, M1, R1, rfl, F1, X2⟩; replace X := X2; clear X2)))
 have hC := hid (jr_DoA K F1 X hF alA (by decide) (by decide) new_acts [.int .i64 1, .int .i64 0, .int .i64 0, .int .i64 2, .string ⟨#[]⟩] rfl r1.out)
 clear hN
 go_upto_region 5 with (first
  | (refine ZyL ?_) | (refine ZyS ?_; clear X; intro w X) | (refine ZyA ?_; clear X; intro g w X)
  | (go_at_call 8; go_loud ((with_reducible refine (hC.out).mono ?_); rintro e w1 ⟨M2, R2, rfl, F2, X2⟩; replace X := X2; clear X2)))
 have hC2 := hid (jr_DoA K F2 (X.perm (perm1J _ _ _)) hF alB (by decide) (by decide) a1.out [.int .i64 2, .int .i64 0, .int .i64 3, .int .i64 0, .string ⟨#[120]⟩] rfl r2.out)
 clear hC
 go_upto_region 6 with (first
  | (refine ZyL ?_) | (refine ZyS ?_; clear X; intro w X) | (refine ZyA ?_; clear X; intro g w X)
  | (go_at_call 8; go_loud ((with_reducible refine (hC2.out).mono ?_); rintro e w1 ⟨M3, R3, rfl, F3, X2⟩; replace X := X2.perm (perm1J _ _ _).symm; clear X2)))
 have hC3 := hid (jr_DoA K F3 (X.perm (perm2J _ _ _ _)) hF alC (by decide) (by decide) a2.out [.int .i64 9, .int .i64 0, .int .i64 3, .int .i64 0, .string ⟨#[]⟩] rfl r3.out)
 clear hC2
 go_upto_region 7 with (first
  | (refine ZyL ?_) | (refine ZyS ?_; clear X; intro w X) | (refine ZyA ?_; clear X; intro g w X)
  | (go_at_call 8; go_loud ((with_reducible refine (hC3.out).mono ?_); rintro e w1 ⟨M4, R4, rfl, F4, X2⟩; replace X := X2.perm (perm2J _ _ _ _).symm; clear X2)))
 have hC4 := hid (jr_DoA K F4 (X.perm (perm3J _ _ _ _ _)) hF alD (by decide) (by decide) a3.out [.int .i64 6, .int .i64 0, .int .i64 0, .int .i64 0, .string ⟨#[]⟩] rfl r4.out)
 clear hC3
 go_upto_region 8 with (first
  | (refine ZyL ?_) | (refine ZyS ?_; clear X; intro w X) | (refine ZyA ?_; clear X; intro g w X)
  | (go_at_call 8; go_loud ((with_reducible refine (hC4.out).mono ?_); rintro e w1 ⟨M5, R5, rfl, F5, X2⟩; replace X := X2.perm (perm3J _ _ _ _ _).symm; clear X2)))
 (refine q_startS 4 [] [11] [1, 5, 10, 16, 21] [0, 1, 2, 3, 4, 5, 6, 7, 8, 9, 10, 11, 12, 13, 14, 15, 16, 17, 18, 19, 20, 21, 22, 23, 24] X ?_; clear X; intro hQ X hL; simp only [zF, zG] at hL; simp only [zF, zG])
 (refine Zf ?_)
 (refine Zl ?_)
 (refine Zg ?_)
 (refine Zm ?_)
 (refine Zf ?_)
 (refine Zl ?_)
 (refine Zg ?_)
 (refine Zg ?_)
 (refine Zm ?_)
 (refine Zf ?_)
 (refine Zl ?_)
 (refine q_callS 6 Tryz.func6 (hFi.out _) ?_; rintro e w1 ⟨rfl, hb1⟩; replace X := X.call hb1; clear hb1; refine Zce ?_; clear hL; intro hL)
 (refine Zg ?_)
 (refine Zg ?_)
 (refine Zm ?_)
 (refine Zf ?_)
 (refine Zl ?_)
 (refine Zg ?_)
 (refine Zg ?_)
 (refine Zm ?_)
 (refine Zf ?_)
 (refine Zl ?_)
 (refine Zg ?_)
 (refine Zg ?_)
 (refine Za ?_)
 refine q_nil ?_
 go_wp2
 go_ret
 exact ⟨rfl, (X.sub (.cons _ (.cons _ (.cons _ (.cons _ (List.sublist_append_right _ _)))))).lessR⟩
end Go.Proofs.YtjhmfljlclajnaaGreatDoor
namespace Wb
open Go Go.RowKit
variable {P : Program} {S : List Nat} {w0 w : World} {L : List Ent} {R : List Rd}
variable {ops : Array Oper} {Q : Exit → Act → World → Prop} {L0 : List Ent} {R0 : List Rd} {brk eff lds r : List Nat} {a : Act} {i : Nat} {o : Oper}
theorem q_callV (f : FuncId) {x : Operand} {caps : Array Value} (xs : List Operand) (ts : Array TypeId) (hi : oAt ops i = some o) (ho : o.op = .call { callee := .value x, args := xs.toArray, argTypes := ts }) (hx : EvR a x (.func (.func f) #[] caps)) (args : Array Value) (ha : (xs.map a.eval).toArray = args)
    (hb : ∃ fn c, P.funcs[f]? = some fn ∧ (fn.name == "runtime.NumGoroutine") = false ∧ fn.body = some c) (he : eff.contains i = true) (hw : Region.wanted o (yielded ops a.tmps) = true) {F : Ending → World → Prop}
    (h : Calls P f (args ++ caps) w F) (hK : ∀ e w', F e w' → ∃ v, e = .returned v ∧ (brk.contains i = false → Kept L0 R0 w → Kept L0 R0 w') ∧ SQ P ops Q L0 R0 brk eff lds r (a.put o.dst v) w') : SQ P ops Q L0 R0 brk eff lds (i :: r) a w :=
 q_eff hi he hw fun K hk => by
  subst ha
  obtain ⟨fn, c, h1, h2, h3⟩ := hb
  have hr : (execOp a.eval o).run P w = .ok (.enter f ((xs.map a.eval).toArray ++ caps)) w := by
   unfold execOp
   simp [ho, resolve, invoke, Deferred.ofValue, hx.eval, run_enter h1 h2 h3]
  unfold Oper.wp
  rw [hr, Oper.upon_enter]
  exact h.mono fun e w' hF => by obtain ⟨v, rfl, hs, hq⟩ := hK e w' hF; exact hk _ _ hs hq
def jAt (l : List Aj) (k : Nat) : Jn := (l.take k).foldl (fun j a => (doJ j a).1) newJ
theorem jAt_succ {l : List Aj} {k : Nat} (hk : k < l.length) : jAt l (k + 1) = (doJ (jAt l k) l[k]).1 := by
 unfold jAt
 rw [List.take_add_one, List.getElem?_eq_getElem hk, List.foldl_append]
 rfl
theorem ajC_len (a : Aj) : (ajC a).length = 5 := rfl
theorem RL.atAj {w : World} {al : Option Addr} {n cap : Nat} {l : List Aj} (h : RL ajC w (.slice al n cap) l) {k : Nat} (hk : k < l.length) :
    ∃ b off, al = some ⟨b, off, none⟩ ∧ w.cell? ⟨b, off + k * 5, none⟩ = some (.int .i64 l[k].kind) ∧ w.cell? ⟨b, off + k * 5 + 1, none⟩ = some (.int .i64 l[k].h) ∧ w.cell? ⟨b, off + k * 5 + 2, none⟩ = some (.int .i64 l[k].b) ∧ w.cell? ⟨b, off + k * 5 + 3, none⟩ = some (.int .i64 l[k].n) ∧ w.cell? ⟨b, off + k * 5 + 4, none⟩ = some (.string l[k].text) := by
 obtain ⟨b, off, ha, hc⟩ := RL.at (c := 5) ajC_len h hk (by decide)
 exact ⟨b, off, ha, hc 0 _ rfl, hc 1 _ rfl, hc 2 _ rfl, hc 3 _ rfl, hc 4 _ rfl⟩
end Wb
namespace Go.Proofs.YtjhmfljlclajnaaGreatDoor
open Go.RowKit Wb
set_option maxRecDepth 100000
set_option maxHeartbeats 16000000
theorem permG {α : Type} (a : α) (M D L : List α) : (a :: (M ++ (D ++ L))).Perm (M ++ (D ++ (a :: L))) := (perm1J a M (D ++ L)).trans ((perm1J a D L).append_left M)
theorem acts_at (l : List Aj) : ∀ k, 0 ≤ (jAt l k).acts := by
 intro k
 unfold jAt
 generalize hj : newJ = j
 have h0 : 0 ≤ j.acts := by rw [← hj]; exact new_acts
 clear hj
 induction l.take k generalizing j with
 | nil => exact h0
 | cons a r ih => exact ih _ (acts_ge a h0)
end Go.Proofs.YtjhmfljlclajnaaGreatDoor
namespace Wb
open Go Go.RowKit
section
variable {S : List Nat} {w0 w w' : World} {L L' : List Ent} {R R' : List Rd}
theorem St.root (X : St S w0 w L R) : St (L.map Ent.g) w w L R :=
 ⟨Mv.refl _ _, X.nd, X.blk, fun e he => .inl (List.mem_map_of_mem he), X.rd⟩
theorem St.back (X : St S w0 w L R) (Y : St (L.map Ent.g) w w' L' R') : St S w0 w' L' R' := by
 have ho : ∀ k, k ∈ L.map Ent.g → k ∈ S ∨ w0.heap.size ≤ k := fun k hk => by
  obtain ⟨e, he, rfl⟩ := List.mem_map.1 hk
  exact X.own e he
 refine ⟨X.mv.then Y.mv ho, Y.nd, Y.blk, fun e he => ?_, Y.rd⟩
 rcases Y.own e he with h | h
 ·exact ho _ h
 ·exact .inr (Nat.le_trans X.mv.size h)
theorem St.frame {b : Nat} (Y : St (L.map Ent.g) w w' L' R') (hb : b < w.heap.size) (hn : ∀ e ∈ L, e.g ≠ b) : w'.heap[b]? = w.heap[b]? :=
 Y.mv.block b hb fun h => by
  obtain ⟨e, he, h2⟩ := List.mem_map.1 h
  exact hn e he h2
theorem St.apartB {b : Nat} (Y : St (L.map Ent.g) w w' L' R') (hb : b < w.heap.size) (hn : ∀ e ∈ L, e.g ≠ b) : ∀ e ∈ L', e.g ≠ b := fun e he h => by
 rcases Y.own e he with h2 | h2
 ·obtain ⟨e2, he2, h3⟩ := List.mem_map.1 h2
  exact hn e2 he2 (h3.trans h)
 ·omega
end
end Wb
namespace Go.Proofs.YtjhmfljlclajnaaGreatDoor
open Go.RowKit Wb
set_option maxRecDepth 100000
set_option maxHeartbeats 16000000
def ApartB (S : List Nat) (w0 : World) (B : List Nat) (L : List Ent) : Prop := ∀ b ∈ B, (b ∈ S ∨ w0.heap.size ≤ b) ∧ ∀ e ∈ L, e.g ≠ b
def LookW (S : List Nat) (w0 : World) (R : List Rd) {σ : Type} (l : List Aj) (N : FuncId) (caps : Array Value) (T : σ → List Ent → List Rd → Prop) (Ph : Nat → σ → Prop) (W : σ → World → Prop) (B : σ → List Nat) : Prop :=
 ∀ (k : Nat) (hk : k < l.length), k < 150 → ∀ s, Ph k s → ∀ (L : List Ent) (gj : Nat) (w : World) (M : List Ent) (Rj : List Rd) (Ms : List Ent) (Rs : List Rd), JF gj (jAt l (k + 1)) M Rj → T s Ms Rs → W s w → ApartB S w0 (B s) (M ++ (Ms ++ L)) → St S w0 w (M ++ (Ms ++ L)) (Rj ++ (Rs ++ R)) →
  Calls Tryz.prog N (#[.pointer (some ⟨gj, 0, none⟩), .agg (ajC l[k]).toArray, .agg #[.int .i64 (doJ (jAt l k) l[k]).2.code, .int .i64 (doJ (jAt l k) l[k]).2.n, .string (doJ (jAt l k) l[k]).2.text]] ++ caps) w fun e w' =>
   ∃ s' M' Rj' Ms' Rs', e = .returned (.bool true) ∧ Ph (k + 1) s' ∧ JF gj (jAt l (k + 1)) M' Rj' ∧ T s' Ms' Rs' ∧ W s' w' ∧ ApartB S w0 (B s') (M' ++ (Ms' ++ L)) ∧ St S w0 w' (M' ++ (Ms' ++ L)) (Rj' ++ (Rs' ++ R))
theorem jr_playW (K : JK) {S : List Nat} {w0 w : World} {L : List Ent} {R : List Rd} {σ : Type} (l : List Aj) (hok : ∀ a ∈ l, a.text.size ≤ 9223372036854775807 ∧ a.n ≤ 9223372036854775807) (N : FuncId) (caps : Array Value) (T : σ → List Ent → List Rd → Prop) (Ph : Nat → σ → Prop) (W : σ → World → Prop) (B : σ → List Nat) (hWs : ∀ s w w', W s w → (∀ b ∈ B s, w'.heap[b]? = w.heap[b]?) → W s w') (hWl : ∀ s w, W s w → ∀ b ∈ B s, b < w.heap.size) (s0 : σ) (Ms : List Ent) (Rs : List Rd) (hT : T s0 Ms Rs) (hP : Ph 0 s0) (hW : W s0 w) (hA : ApartB S w0 (B s0) (Ms ++ L)) (X : St S w0 w (Ms ++ L) (Rs ++ R)) (hF : flR 0 ∈ R) {al : Option Addr} {cl : Nat} (hl : Rd.of ajC (.slice al l.length cl) l ∈ R)
    (hb : ∃ fn c, Tryz.prog.funcs[N]? = some fn ∧ (fn.name == "runtime.NumGoroutine") = false ∧ fn.body = some c) (hLk : LookW S w0 R l N caps T Ph W B) :
    Calls Tryz.prog 4 #[.slice al l.length cl, .func (.func N) #[] caps] w fun e w' => ∃ gj M Rj s Ms Rs, e = .returned (.tuple #[.pointer (some ⟨gj, 0, none⟩), .bool true]) ∧ JF gj (jAt l (min l.length 150)) M Rj ∧ T s Ms Rs ∧ Ph (min l.length 150) s ∧ W s w' ∧ ApartB S w0 (B s) (M ++ (Ms ++ L)) ∧ St S w0 w' (M ++ (Ms ++ L)) (Rj ++ (Rs ++ R)) := by
 have X0 := X
 have hdis : ∀ b ∈ B s0, b < w.heap.size ∧ ∀ e ∈ Ms ++ L, e.g ≠ b := fun b hb => ⟨hWl _ _ hW b hb, (hA b hb).2⟩
 replace X := X.root
 replace hW := hid hW; replace hA := hid hA; replace hdis := hid hdis; replace hWs := hid hWs; replace hWl := hid hWl
 have hAl := hid (jr_alive K X (List.mem_append_right _ hF))
 replace hLk := hid hLk
 replace hok := hid hok
 go_enter Tryz.func4, Tryz.ntmps4
 go_upto_region 3 with (first
  | (refine ZyL ?_) | (refine ZyS ?_; clear X; intro w X) | (refine ZyA ?_; clear X; intro g w X)
  | (go_at_call 9; go_loud ((with_reducible refine (hAl.out).mono ?_); rintro e w1 ⟨rfl, X2⟩; replace X := X2; clear X2)))
 clear hAl
 have hN := hid (jr_New K X)
 go_upto_region 4 with (first
  | (refine ZyL ?_) | (refine ZyS ?_; clear X; intro w X) | (refine ZyA ?_; clear X; intro g w X)
  | (go_at_call 10; go_loud ((with_reducible refine (hN.out).mono ?_); rintro e w1 ⟨gj, M, Rj, rfl, F, X2⟩; replace X := X2; clear X2)))
 clear hN
 go_wp2
 have hW1 := hWs.out _ _ _ hW.out (fun b hb => X.frame (hdis.out b hb).1 (hdis.out b hb).2)
 have hA1 : ApartB S w0 (B s0) (M ++ (Ms ++ L)) := fun b hb => ⟨(hA.out b hb).1, X.apartB (hdis.out b hb).1 (hdis.out b hb).2⟩
 replace X := X0.back X
 clear hW hA hdis X0
 go_loopw [7] (fun i wr => ∃ (k : Nat) (s : _) (M : List Ent) (Rj : List Rd) (Ms : List Ent) (Rs : List Rd), k ≤ l.length ∧ k ≤ 150 ∧ i = .int .i64 k ∧ JF gj (jAt l k) M Rj ∧ T s Ms Rs ∧ Ph k s ∧ W s wr ∧ ApartB S w0 (B s) (M ++ (Ms ++ L)) ∧ St S w0 wr (M ++ (Ms ++ L)) (Rj ++ (Rs ++ R))) (fun i _ => l.length - (intOf i).toNat)
 case atStart => exact ⟨0, s0, M, Rj, Ms, Rs, Nat.zero_le _, Nat.zero_le _, rfl, F, hT, hP, hW1, hA1, X⟩
 case round =>
  clear X F hP hT hW1 hA1 Ms Rs s0
  obtain ⟨k, s, M, Rj, Ms, Rs, hk1, hk2, rfl, F, hT, hP, hW, hA, X⟩ := hrel
  by_cases hlt : k < l.length
  ·by_cases h150 : k < 150
   ·obtain ⟨b4, off4, hb4, d0, d1, d2, d3, d4⟩ := RL.atAj (X.read (List.mem_append_right _ (List.mem_append_right _ hl))) hlt
    subst hb4
    have hoka := hok.out _ (List.getElem_mem hlt)
    have X0 := X
    have hdis := hid (fun b (hb : b ∈ B s) => And.intro (hWl.out _ _ hW b hb) (hA b hb).2)
    replace X := X.root
    replace hW := hid hW; replace hA := hid hA
    have hD := hid (jr_DoA K F X (List.mem_append_right _ hF) l[k] hoka.1 hoka.2 (acts_at l k) [.int .i64 l[k].kind, .int .i64 l[k].h, .int .i64 l[k].b, .int .i64 l[k].n, .string l[k].text] rfl (c := (doJ (jAt l k) l[k]).2.code) (n := (doJ (jAt l k) l[k]).2.n) (t := (doJ (jAt l k) l[k]).2.text) rfl)
    have hD2 := fun L gj w M Rj F hW hA X => hLk.out k hlt h150 s hP L gj w M Rj Ms Rs F hT hW hA X
    clear hoka
    rw [← jAt_succ hlt] at hD
    replace hD2 := hid hD2
    have c1 : (k : Int) < (l.length : Int) := by omega
    have c2 : (k : Int) < 150 := by omega
    go_upto_region 8 with (first
     | (refine ZyL ?_) | (refine ZyS ?_; clear X; intro w X) | (refine ZyA ?_; clear X; intro g w X)
     | (go_at_call 8; go_loud ((with_reducible refine (hD.out).mono ?_); rintro e w1 ⟨M2, R2, rfl, F2, X2⟩; replace X := X2; clear X2)))
    clear hD
    have hW1 := hid (hWs.out _ _ _ hW.out (fun b hb => X.frame (hdis.out b hb).1 (hdis.out b hb).2))
    have hA1 := hid (fun b (hb : b ∈ B s) => And.intro (hA.out b hb).1 (X.apartB (hdis.out b hb).1 (hdis.out b hb).2))
    replace X := X0.back X
    clear X0 hW hA hdis
    (refine q_startS 1 [7] [7] [5, 6] [0, 1, 2, 3, 4, 5, 6, 7, 8] X ?_; clear X; intro hQ X hL; simp only [zF, zG] at hL; simp only [zF, zG])
    (refine Zm ?_)
    (refine Zm ?_)
    (refine Zm ?_)
    (refine Zm ?_)
    (refine Zg ?_)
    refine q_elemN ajC_len hlt rfl rfl (List.mem_append_right _ (List.mem_append_right _ hl)) Zev rfl rfl X hL hQ ?_
    (simp only [Act.put, zA, zB, zC, zD, zE, zF, zG, Nat.reduceAdd])
    (refine Zl ?_)
    refine q_callV N _ _ rfl rfl Zev _ rfl hb rfl rfl (hD2.out _ _ _ _ _ F2 (hWs.out _ _ _ hW1.out (fun _ _ => rfl)) (fun b hb => ⟨(hA1.out b hb).1, fun e he => (hA1.out b hb).2 e ((permG _ _ _ _).mem_iff.2 he)⟩) (X.perm (permG _ _ _ _))) ?_
    rintro e w1 ⟨s2, M3, R3, Ms2, Rs2, rfl, hP2, F3, hT2, hW2, hA2, X3⟩
    refine ⟨_, rfl, fun h => absurd h (by decide), ?_⟩
    clear hL X
    have X := X3
    clear X3
    (simp only [Act.put, zA, zB, zC, zD, zE, zF, zG, Nat.reduceAdd])
    (refine Zg ?_)
    refine q_nil ?_
    go_wp2
    go_roundw
    case rel => exact ⟨k + 1, s2, M3, R3, Ms2, Rs2, by omega, by omega, by go_num, F3, hT2, hP2, hW2, fun b hb => ⟨(hA2 b hb).1, fun e he => (hA2 b hb).2 e (((List.Sublist.refl _).append ((List.Sublist.refl _).append (List.sublist_cons_self _ _))).subset he)⟩, X.sub ((List.Sublist.refl _).append ((List.Sublist.refl _).append (List.sublist_cons_self _ _)))⟩
    case measure => simp [intOf]; omega
   ·have c1 : (k : Int) < (l.length : Int) := by omega
    have c2 : ¬ (k : Int) < 150 := by omega
    have hm : min l.length 150 = k := by omega
    replace hm := hid hm
    go_wp2_with (first
     | (refine ZyL ?_) | (refine ZyS ?_; clear X; intro w X) | (refine ZyA ?_; clear X; intro g w X))
    rw [hm.out]
    first
     | exact bodyPost_ret (results_tmp2 rfl _ _ _) rfl ⟨_, _, _, _, _, _, rfl, F, hT, hP, hW, hA, X⟩
     | exact bodyPost_ret (results_tmp2 rfl _ _ _) rfl ⟨_, rfl, _, _, F, _, _, _, hT, hP, hW, hA, X⟩
  ·have hm : min l.length 150 = k := by omega
   replace hm := hid hm
   go_wp2_with (first
    | (refine ZyL ?_) | (refine ZyS ?_; clear X; intro w X) | (refine ZyA ?_; clear X; intro g w X))
   rw [hm.out]
   first
    | exact bodyPost_ret (results_tmp2 rfl _ _ _) rfl ⟨_, _, _, _, _, _, rfl, F, hT, hP, hW, hA, X⟩
    | exact bodyPost_ret (results_tmp2 rfl _ _ _) rfl ⟨_, rfl, _, _, F, _, _, _, hT, hP, hW, hA, X⟩
end Go.Proofs.YtjhmfljlclajnaaGreatDoor
namespace Wb
open Go Go.RowKit Go.MapKept
def IMap (w : World) (b : Nat) (f : Int → Option Value) : Prop :=
 ∃ es clock, w.heap[b]? = some (.map es clock) ∧ Stamped es clock ∧ (∀ x ∈ es.toList, IsKey (.int .i64) x.key) ∧ ∀ k v, f k = some v ↔ ∃ x ∈ es.toList, x.key = .int .i64 k ∧ x.val = v
section
variable {w w' : World} {b : Nat} {f : Int → Option Value} {P : Program} {t kt e : TypeId}
theorem IMap.lt (h : IMap w b f) : b < w.heap.size := by
 obtain ⟨es, c, h1, _⟩ := h
 exact (Array.getElem?_eq_some_iff.1 h1).1
theorem IMap.below {B : Nat} (h : IMap w b f) (hb : Below B w w') (hlt : b < B) : IMap w' b f := by
 obtain ⟨es, c, h1, r⟩ := h
 exact ⟨es, c, (hb.block b hlt).trans h1, r⟩
theorem IMap.step (h : IMap w b f) (hb : Below w.heap.size w w') : IMap w' b f := h.below hb h.lt
theorem IMap.drew (h : IMap w b f) : IMap w.drew b f := h
theorem IMap.alloc (h : IMap w b f) (o : Obj) : IMap (w.alloc o) b f := by
 have hl := h.lt
 obtain ⟨es, c, h1, r⟩ := h
 exact ⟨es, c, (heap_alloc_old w o hl).trans h1, r⟩
theorem IMap.set_other (h : IMap w b f) (p : Addr) (v : Value) (hne : b ≠ p.block) : IMap (w.setCell p v) b f := by
 obtain ⟨es, c, h1, r⟩ := h
 exact ⟨es, c, (Below.heap_setCell w p v b hne).trans h1, r⟩
theorem IMap.grown {row : Option Nat} (h : IMap w b f) (hg : w.grownBy w' row) (hne : some b ≠ row) : IMap w' b f := by
 have hl := h.lt
 obtain ⟨es, c, h1, r⟩ := h
 exact ⟨es, c, (hg.block b hl hne).trans h1, r⟩
theorem IMap.congr {g : Int → Option Value} (h : IMap w b f) (hfg : ∀ k, f k = g k) : IMap w b g := by
 obtain rfl : f = g := funext hfg
 exact h
theorem IMap.made (w : World) : IMap (w.alloc (.map #[] 0)) w.heap.size (fun _ => none) :=
 ⟨#[], 0, (MapKept.heap_alloc w _).1, stamped_empty 0, by simp, by simp⟩
theorem IMap.at_ {w : World} {b : Nat} {f : Int → Option Value} (h : IMap w b f) (k : Int) : ∃ es clock, w.heap[b]? = some (.map es clock) ∧
    ((f k = none ∧ Instr.findNow (.int .i64) (.int .i64 k) es.toList 0 = some none ∧ ∀ x ∈ es.toList, x.key ≠ .int .i64 k) ∨
     ∃ j x, Instr.findNow (.int .i64) (.int .i64 k) es.toList 0 = some (some (j, x.val)) ∧ es[j]? = some x ∧ x.key = .int .i64 k ∧ f k = some x.val) := by
 obtain ⟨es, c, h1, h2, h3, h4⟩ := h
 refine ⟨es, c, h1, ?_⟩
 rcases findNow_spec (d := .int .i64) (k := .int .i64 k) rfl es.toList 0 h3 with ⟨g1, g2⟩ | ⟨j, x, g1, g2, g3⟩
 ·refine .inl ⟨?_, g1, g2⟩
  cases hf : f k with
  | none => rfl
  | some v =>
   obtain ⟨x, hx, hk, _⟩ := (h4 k v).1 hf
   exact absurd hk (g2 x hx)
 ·rw [Nat.zero_add] at g1
  exact .inr ⟨j, x, g1, by simpa using g2, g3, (h4 k x.val).2 ⟨x, List.mem_of_getElem? g2, g3, rfl⟩⟩
theorem IMap.lookup (h : IMap w b f) (ht : P.underlying t = some (.map kt e)) (hk : P.underlying kt = some (.int .i64)) {z : Value} (hz : (zeroValue e).run P w = .ok z w) (k : Int) :
    (Instr.lookup t (.map (some b)) (.int .i64 k) false).run P w = .ok ((f k).getD z) w ∧
    (Instr.lookup t (.map (some b)) (.int .i64 k) true).run P w = .ok (.tuple #[(f k).getD z, .bool (f k).isSome]) w := by
 obtain ⟨es, c, h1, hh⟩ := h.at_ k
 have hc := fun n e' => run_checkKey (P := P) (w := w) hk (k := .int .i64 k) rfl e' n
 rcases hh with ⟨hf, g1, _⟩ | ⟨j, x, g1, g2, g3, hf⟩
 ·have hfk := run_findKey (P := P) (w := w) hk g1
  rw [hf]
  constructor <;> simp [Instr.lookup, run_underlying ht, run_getObj_map h1, hc 9999, hfk, hz, Result.andThen]
 ·have hfk := run_findKey (P := P) (w := w) hk g1
  rw [hf]
  constructor <;> simp [Instr.lookup, run_underlying ht, run_getObj_map h1, hc 9999, hfk, Result.andThen]
structure Turned (w w' : World) (b : Nat) : Prop where
 os : w'.os = w.os
 tape : w'.tape = w.tape
 output : w'.output = w.output
 size : w'.heap.size = w.heap.size
 block : ∀ i, i ≠ b → w'.heap[i]? = w.heap[i]?
theorem setBlock_turned {es : Array MapEntry} {c : Nat} (hb : w.heap[b]? = some (.map es c)) (o : Obj) : Turned w (ChangeMaps.setBlock w b o) b :=
 ⟨rfl, rfl, rfl, by simp [ChangeMaps.setBlock], fun i hi => ChangeMaps.heap_setBlock_other hb _ hi⟩
theorem Turned.blk (h : Turned w w' b) {g : Nat} {cs : Array Value} {ty : TypeId} (hg : Blk w g cs ty) (hne : g ≠ b) : Blk w' g cs ty := (h.block g hne).trans hg
theorem Turned.imap (h : Turned w w' b) {g : Nat} {f : Int → Option Value} (hg : IMap w g f) (hne : g ≠ b) : IMap w' g f := by
 obtain ⟨es, c, h1, r⟩ := hg
 exact ⟨es, c, (h.block g hne).trans h1, r⟩
theorem Turned.below (h : Turned w w' b) {W : World} {B : Nat} (hw : Below B W w) (hlt : B ≤ b) : Below B W w' :=
 ⟨h.os.trans hw.os, by rw [h.tape]; exact hw.tape, by rw [h.output]; exact hw.output, by rw [h.size]; exact hw.size, fun i hi => (h.block i (by omega)).trans (hw.block i hi)⟩
theorem Turned.grown (h : Turned w w' b) : w.grownBy w' (some b) := ⟨h.os, h.tape, h.output, by rw [h.size]; exact Nat.le_refl _, fun i hi hne => h.block i (fun hh => hne (by rw [hh]))⟩
theorem IMap.update (h : IMap w b f) (ht : P.underlying t = some (.map kt e)) (hk : P.underlying kt = some (.int .i64)) (k : Int) (v : Value) :
    ∃ w', (Instr.mapUpdate t (.map (some b)) (.int .i64 k) v).run P w = .ok () w' ∧ IMap w' b (fun x => if x = k then some v else f x) ∧ Turned w w' b := by
 obtain ⟨es, c, h1, h2, h3, h4⟩ := h
 have hc := fun n e' => run_checkKey (P := P) (w := w) hk (k := .int .i64 k) rfl e' n
 rcases findNow_spec (d := .int .i64) (k := .int .i64 k) rfl es.toList 0 h3 with ⟨g1, g2⟩ | ⟨j, x, g1, g2, g3⟩
 ·have hfk := run_findKey (P := P) (w := w) hk g1
  refine ⟨ChangeMaps.setBlock w b (.map (es.push { key := .int .i64 k, val := v, born := c }) (c + 1)), ?_, ?_, setBlock_turned h1 _⟩
  ·simp [Instr.mapUpdate, run_underlying ht, run_getObj_map h1, hc 9999, hfk, run_setObj_map _ h1, Result.andThen, ChangeMaps.setBlock]
  ·refine ⟨_, _, ChangeMaps.heap_setBlock_same h1 _, stamped_push h2 g2, ?_, ?_⟩
   ·intro y hy
    simp only [Array.toList_push, List.mem_append, List.mem_singleton] at hy
    rcases hy with hy | rfl
    ·exact h3 y hy
    ·rfl
   ·intro q u
    simp only [Array.toList_push, List.mem_append, List.mem_singleton]
    by_cases hq : q = k
    ·subst hq
     simp only [if_pos]
     constructor
     ·intro hu
      cases hu
      exact ⟨_, .inr rfl, rfl, rfl⟩
     ·rintro ⟨y, hy | rfl, e1, e2⟩
      ·exact absurd e1 (g2 y hy)
      ·simp at e2; rw [e2]
    ·simp only [if_neg hq, h4 q u]
     constructor
     ·rintro ⟨y, hy, e1, e2⟩
      exact ⟨y, .inl hy, e1, e2⟩
     ·rintro ⟨y, hy | rfl, e1, e2⟩
      ·exact ⟨y, hy, e1, e2⟩
      ·simp at e1; exact absurd e1.symm hq
 ·rw [Nat.zero_add] at g1
  have hj : es[j]? = some x := by simpa using g2
  have hfk := run_findKey (P := P) (w := w) hk g1
  have hkey : ∀ e', es[j]? = some e' → ({ e' with key := .int .i64 k, val := v } : MapEntry).key = e'.key := fun e' he' => by rw [hj] at he'; cases he'; exact g3.symm
  refine ⟨ChangeMaps.setBlock w b (.map (es.modify j fun e => { e with key := .int .i64 k, val := v }) c), ?_, ?_, setBlock_turned h1 _⟩
  ·simp [Instr.mapUpdate, run_underlying ht, run_getObj_map h1, hc 9999, hfk, hj, g3, run_keyThatStays (d := .int .i64) (k := .int .i64 k) rfl, run_setObj_map _ h1, Result.andThen, ChangeMaps.setBlock]
  ·have hst := stamped_modify h2 j (fun e => { e with key := .int .i64 k, val := v }) (fun _ _ => rfl) (fun e' _ he' => hkey e' he')
   refine ⟨_, _, ChangeMaps.heap_setBlock_same h1 _, hst, isKey_modify h3 _ _ hkey, ?_⟩
   have hmem : ∀ y, y ∈ (es.modify j fun e => { e with key := .int .i64 k, val := v }).toList ↔ (y = { x with key := .int .i64 k, val := v } ∨ ∃ i, i ≠ j ∧ es[i]? = some y) := by
    intro y
    rw [List.mem_iff_getElem?]
    simp only [Array.getElem?_toList, Array.getElem?_modify]
    constructor
    ·rintro ⟨i, hi⟩
     by_cases hij : j = i
     ·subst hij
      simp [hj] at hi
      exact .inl hi.symm
     ·simp [hij] at hi
      exact .inr ⟨i, fun h => hij h.symm, hi⟩
    ·rintro (rfl | ⟨i, hi, hy⟩)
     ·exact ⟨j, by simp [hj]⟩
     ·exact ⟨i, by simp [Ne.symm hi, hy]⟩
   have hun : ∀ i y, es[i]? = some y → y.key = .int .i64 k → i = j := by
    intro i y hi hy
    have hnd := h2.2.2
    have hi' : (es.toList.map (·.key))[i]? = some (.int .i64 k) := by simp [hi, hy]
    have hj' : (es.toList.map (·.key))[j]? = some (.int .i64 k) := by simp [hj, g3]
    have hil := (List.getElem?_eq_some_iff.1 hi').1
    exact (List.getElem?_inj hil hnd).1 (hi'.trans hj'.symm)
   intro q u
   by_cases hq : q = k
   ·subst hq
    simp only [if_pos]
    constructor
    ·intro hu
     cases hu
     exact ⟨_, (hmem _).2 (.inl rfl), rfl, rfl⟩
    ·rintro ⟨y, hy, e1, e2⟩
     rcases (hmem y).1 hy with rfl | ⟨i, hi, hy⟩
     ·simp at e2; rw [e2]
     ·exact absurd (hun i y hy e1) hi
   ·simp only [if_neg hq, h4 q u]
    constructor
    ·rintro ⟨y, hy, e1, e2⟩
     obtain ⟨i, hi⟩ := List.mem_iff_getElem?.1 hy
     refine ⟨y, (hmem y).2 (.inr ⟨i, ?_, by simpa using hi⟩), e1, e2⟩
     rintro rfl
     rw [g2] at hi
     cases hi
     rw [g3] at e1
     simp at e1
     exact hq e1.symm
    ·rintro ⟨y, hy, e1, e2⟩
     rcases (hmem y).1 hy with rfl | ⟨i, hi, hy⟩
     ·simp at e1; exact absurd e1.symm hq
     ·exact ⟨y, List.mem_iff_getElem?.2 ⟨i, by simpa using hy⟩, e1, e2⟩
end
section
variable {w w' : World} {b : Nat} {f : Int → Option Value} {P : Program} {t kt e ty : TypeId}
theorem IMap.delete (h : IMap w b f) (ht : P.underlying t = some (.map kt e)) (hk : P.underlying kt = some (.int .i64)) (k : Int) :
    ∃ w', (Builtin.delete_ #[t, kt] ty #[.map (some b), .int .i64 k]).run P w = .ok (.tuple #[]) w' ∧ IMap w' b (fun x => if x = k then none else f x) ∧ Turned w w' b := by
 obtain ⟨es, c, h1, h2, h3, h4⟩ := h
 have hc := fun n e' => run_checkKey (P := P) (w := w) hk (k := .int .i64 k) rfl e' n
 rcases findNow_spec (d := .int .i64) (k := .int .i64 k) rfl es.toList 0 h3 with ⟨g1, g2⟩ | ⟨j, x, g1, g2, g3⟩
 ·have hfk := run_findKey (P := P) (w := w) hk g1
  refine ⟨ChangeMaps.setBlock w b (.map es c), ?_, ?_, setBlock_turned h1 _⟩
  ·simp [Builtin.delete_, run_underlying ht, run_getObj_map h1, hc 9999, hfk, run_setObj_map _ h1, Result.andThen, ChangeMaps.setBlock]
  ·refine ⟨_, _, ChangeMaps.heap_setBlock_same h1 _, h2, h3, ?_⟩
   intro q u
   by_cases hq : q = k
   ·subst hq
    simp only [if_pos]
    constructor
    ·intro hu; cases hu
    ·rintro ⟨y, hy, e1, _⟩
     exact absurd e1 (g2 y hy)
   ·simp only [if_neg hq]
    exact h4 q u
 ·rw [Nat.zero_add] at g1
  have hj : es[j]? = some x := by simpa using g2
  have hjs : j < es.size := (Array.getElem?_eq_some_iff.1 hj).1
  have hfk := run_findKey (P := P) (w := w) hk g1
  have hsub : (es.eraseIdxIfInBounds j).toList = es.toList.eraseIdx j := by
   unfold Array.eraseIdxIfInBounds
   rw [dif_pos hjs]
   simp
  refine ⟨ChangeMaps.setBlock w b (.map (es.eraseIdxIfInBounds j) c), ?_, ?_, setBlock_turned h1 _⟩
  ·simp [Builtin.delete_, run_underlying ht, run_getObj_map h1, hc 9999, hfk, run_setObj_map _ h1, Result.andThen, ChangeMaps.setBlock]
  ·refine ⟨_, _, ChangeMaps.heap_setBlock_same h1 _, stamped_erase h2 j, ?_, ?_⟩
   ·intro y hy
    rw [hsub] at hy
    exact h3 y ((List.eraseIdx_sublist _ _).subset hy)
   have hun : ∀ i y, es[i]? = some y → y.key = .int .i64 k → i = j := by
    intro i y hi hy
    have hnd := h2.2.2
    have hi' : (es.toList.map (·.key))[i]? = some (.int .i64 k) := by simp [hi, hy]
    have hj' : (es.toList.map (·.key))[j]? = some (.int .i64 k) := by simp [hj, g3]
    have hil := (List.getElem?_eq_some_iff.1 hi').1
    exact (List.getElem?_inj hil hnd).1 (hi'.trans hj'.symm)
   have hmem : ∀ y, y ∈ (es.eraseIdxIfInBounds j).toList ↔ ∃ i, i ≠ j ∧ es[i]? = some y := by
    intro y
    rw [hsub, List.mem_eraseIdx_iff_getElem?]
    simp
   intro q u
   by_cases hq : q = k
   ·subst hq
    simp only [if_pos]
    constructor
    ·intro hu; cases hu
    ·rintro ⟨y, hy, e1, _⟩
     obtain ⟨i, hi, hy⟩ := (hmem y).1 hy
     exact absurd (hun i y hy e1) hi
   ·simp only [if_neg hq, h4 q u]
    constructor
    ·rintro ⟨y, hy, e1, e2⟩
     obtain ⟨i, hi⟩ := List.mem_iff_getElem?.1 hy
     refine ⟨y, (hmem y).2 ⟨i, ?_, by simpa using hi⟩, e1, e2⟩
     rintro rfl
     rw [g2] at hi
     cases hi
     rw [g3] at e1
     simp at e1
     exact hq e1.symm
    ·rintro ⟨y, hy, e1, e2⟩
     obtain ⟨i, _, hy⟩ := (hmem y).1 hy
     exact ⟨y, List.mem_iff_getElem?.2 ⟨i, by simpa using hy⟩, e1, e2⟩
end
section
variable {S : List Nat} {w0 w w' : World} {L : List Ent} {R : List Rd} {b : Nat} {f g : Int → Option Value}
theorem IMap.same (h : IMap w b f) (he : w'.heap[b]? = w.heap[b]?) : IMap w' b f := by
 obtain ⟨es, c, h1, r⟩ := h
 exact ⟨es, c, he.trans h1, r⟩
theorem St.rd_map (X : St S w0 w L R) (im : IMap w b f) : ∀ r ∈ R, r.cs = [] ∨ ∀ k, vblk r.v = some k → k ∉ [b] := by
 intro r hr
 obtain ⟨⟨a, cap, hv, h1, h2, h3⟩, _⟩ := X.rd r hr
 rcases h3 with h3 | ⟨k, off, ha, hc⟩
 ·exact .inl h3
 ·cases hcs : r.cs with
  | nil => exact .inl rfl
  | cons u l =>
   refine .inr fun k' hk' hm => ?_
   obtain rfl := List.mem_singleton.1 hm
   rw [hv, ha] at hk'
   cases hk'
   have h4 := hc 0 u (by rw [hcs]; rfl)
   obtain ⟨es, c, h5, _⟩ := im
   unfold World.cell? at h4
   simp [h5] at h4
theorem Turned.mv (h : Turned w w' b) : Mv [b] w w' := ⟨h.os, h.tape, h.output, by rw [h.size]; exact Nat.le_refl _, fun k _ hn => h.block k fun e => hn (by rw [e]; exact List.mem_singleton.2 rfl)⟩
theorem St.turned (X : St S w0 w L R) (im : IMap w b f) (ht : Turned w w' b) (hs : b ∈ S ∨ w0.heap.size ≤ b) (hL : ∀ e ∈ L, e.g ≠ b) : St S w0 w' L R :=
 X.moved ht.mv (fun k hk => by rw [List.mem_singleton.1 hk]; exact hs) (fun e he h => hL e he (List.mem_singleton.1 h)) (X.rd_map im)
theorem St.madeMap (X : St S w0 w L R) : St S w0 (w.alloc (.map #[] 0)) L R := X.call (bal (b0 w) _)
end
section
variable {P : Program} {ops : Array Oper} {Q : Exit → Act → World → Prop} {L0 : List Ent} {brk eff lds : List Nat} {i : Nat} {r : List Nat} {o : Oper} {a : Act} {w w2 : World} {R0 : List Rd}
theorem q_upd {T : TypeId} {m k x : Operand} {b : Nat} {n : Int} {v : Value} (hi : oAt ops i = some o) (ho : o.op = .mapUpdate T m k x) (hm : EvR a m (.map (some b))) (hk : EvR a k (.int .i64 n)) (hx : EvR a x v) (he : eff.contains i = true) (hb : brk.contains i = true) (hw : Region.wanted o (yielded ops a.tmps) = true)
    (hrun : (Instr.mapUpdate T (.map (some b)) (.int .i64 n) v).run P w = .ok () w2) (h : SQ P ops Q L0 R0 brk eff lds r (a.put o.dst undef) w2) : SQ P ops Q L0 R0 brk eff lds (i :: r) a w :=
 q_eff hi he hw fun K hK => by
  unfold Oper.wp execOp
  simp only [ho, hm.eval, hk.eval, hx.eval, Sem.run_bind, Sem.run_pure, Result.andThen_ok, hrun]
  exact hK _ _ (fun hf => by rw [hb] at hf; cases hf) h
theorem m_make {S : List Nat} {w0 : World} {L : List Ent} {R : List Rd} (hw : Region.wanted o (yielded ops a.tmps) = true) {T : TypeId} (ho : o.op = .makeMap T none) (X : St S w0 w L R) {rest : List Oper}
    (h : ∀ g w', St S w0 w' L R → IMap w' g (fun _ => none) → (∀ e ∈ L, e.g ≠ g) → w0.heap.size ≤ g → wpList P ops Q rest (a.put o.dst (.map (some g))) w') : wpList P ops Q (o :: rest) a w :=
 BigFrame.wpList_want hw fun K hK => by
  unfold Oper.wp execOp
  simp only [ho, Option.map_none, run_makeMap, Sem.run_bind, Sem.run_pure, Result.andThen_ok]
  exact hK _ _ (h _ _ X.madeMap (IMap.made w) (fun e he => by have := (X.blk e he).lt; omega) X.mv.size)
end
end Wb
namespace Wb
open Go Go.RowKit
def topT (t : Txn) (b : Int) : Option (Option ByteArray) := match getC t.mt b with | some s => some (some s) | none => match getC t.dt b with | some s => some (some s) | none => if inI t.rev b = true then some none else none
def homeX (j : Jn) (b : Int) : ByteArray := (newestB j.done b).getD (readD j.disk (25 + b))
def readX (j : Jn) (b : Int) : Option ByteArray := match topT j.now b with | some r => r | none => match topT j.sealed b with | some r => r | none => some (homeX j b)
structure VI (j : Jn) : Prop where
 a : ∀ b, isBlk b = true → (turnT j.now (turnT j.sealed (newestB j.done b) b) b).isSome = true → j.roles b = 1
 b : ∀ b, hasB j.now.dt b = true → turnT j.sealed (newestB j.done b) b = none
 c : ∀ b, hasB j.sealed.dt b = true → newestB j.done b = none
theorem turn_txn0 (q : Int) (o : Option ByteArray) (b : Int) : turnT (txn0 q) o b = o := rfl
theorem top_txn0 (q : Int) (b : Int) : topT (txn0 q) b = none := rfl
theorem topT_congr {t u : Txn} {b : Int} (h1 : getC u.mt b = getC t.mt b) (h2 : getC u.dt b = getC t.dt b) (h3 : inI u.rev b = inI t.rev b) : topT u b = topT t b := by unfold topT; rw [h1, h2, h3]
theorem turnT_congr {t u : Txn} {b : Int} {o : Option ByteArray} (h1 : getC u.mt b = getC t.mt b) (h3 : inI u.rev b = inI t.rev b) : turnT u o b = turnT t o b := by unfold turnT; rw [h1, h3]
theorem turnT_some {t : Txn} {b : Int} {o : Option ByteArray} {s : ByteArray} (h : getC t.mt b = some s) : turnT t o b = some s := by unfold turnT; rw [h]
theorem turnT_rev {t : Txn} {b : Int} {o : Option ByteArray} (h : getC t.mt b = none) (h2 : inI t.rev b = true) : turnT t o b = none := by unfold turnT; rw [h]; simp [h2]
theorem turnT_else {t : Txn} {b : Int} {o : Option ByteArray} (h : getC t.mt b = none) (h2 : inI t.rev b = false) : turnT t o b = o := by unfold turnT; rw [h]; simp [h2]
theorem readX_read {j : Jn} {b : Int} {s : ByteArray} (hg : ∀ t ∈ j.done, goodT t = true) (hb : isBlk b = true) (h : readX j b = some s) : readJ j b = ⟨0, j.roles b, s⟩ := by
 unfold readJ firstC
 rw [if_pos hb, newestL_get hg]
 unfold readX at h
 have e : ((getC j.now.mt b).or ((getC j.now.dt b).or ((getC j.sealed.mt b).or ((getC j.sealed.dt b).or (newestB j.done b))))).getD (readD j.disk (25 + b)) = s := by
  unfold topT at h
  cases h1 : getC j.now.mt b with
  | some x => rw [h1] at h; simpa using h
  | none =>
   rw [h1] at h
   cases h2 : getC j.now.dt b with
   | some x => rw [h2] at h; simpa using h
   | none =>
    rw [h2] at h
    dsimp only at h
    split at h
    ·rename_i r hr
     split at hr
     ·cases hr; cases h
     ·cases hr
    ·cases h3 : getC j.sealed.mt b with
     | some x => rw [h3] at h; simpa using h
     | none =>
      rw [h3] at h
      cases h4 : getC j.sealed.dt b with
      | some x => rw [h4] at h; simpa using h
      | none =>
       rw [h4] at h
       dsimp only at h
       split at h
       ·rename_i r hr
        split at hr
        ·cases hr; cases h
        ·cases hr
       ·unfold homeX at h
        cases h
        simp
 rw [e]
theorem orE_zero {e f : Int} {c : Prop} [Decidable c] (hf : f ≠ 0) (h : orE e c f = 0) : e = 0 ∧ ¬ c := by
 unfold orE at h
 split at h
 ·exact absurd h hf
 ·rename_i hc
  exact ⟨h, fun hcc => hc ⟨h, hcc⟩⟩
theorem chg_zero {t : Txn} {h b : Int} {s : ByteArray} (e : chgE t h b s = 0) : mayE t h b = 0 ∧ hasB t.dt b = false := by
 unfold chgE at e
 split at e
 ·rename_i h1; exact absurd e h1
 rename_i h1
 split at e
 ·cases e
 split at e
 ·cases e
 rename_i h2
 exact ⟨by simpa using h1, by simpa using h2⟩
theorem fil_zero {t : Txn} {h b : Int} {s : ByteArray} (e : filE t h b s = 0) : mayE t h b = 0 ∧ hasB t.mt b = false ∧ inI t.rev b = false := by
 unfold filE at e
 split at e
 ·rename_i h1; exact absurd e h1
 rename_i h1
 split at e
 ·cases e
 split at e
 ·cases e
 rename_i h2
 refine ⟨by simpa using h1, ?_⟩
 unfold owed at h2
 simpa using h2
theorem rvk_zero {t : Txn} {h b : Int} (e : rvkE t h b = 0) : mayE t h b = 0 := by
 unfold rvkE at e
 split at e
 ·rename_i h1; exact absurd e h1
 rename_i h1
 simpa using h1
structure ChgD (t u : Txn) (b : Int) : Prop where
 mt : ∀ x, x ≠ b → getC u.mt x = getC t.mt x
 dt : ∀ x, x ≠ b → getC u.dt x = getC t.dt x
 rev : ∀ x, x ≠ b → inI u.rev x = inI t.rev x
theorem chg_d {t : Txn} {h b : Int} {s : ByteArray} (e : chgE t h b s = 0) (hg : goodT t = true) : ChgD t (chgT t h b s) b ∧ getC (chgT t h b s).mt b = some s ∧ (chgT t h b s).dt = t.dt ∧ inI (chgT t h b s).rev b = false := by
 have g := goodT_of.1 hg
 unfold chgT
 rw [if_pos e]
 refine ⟨⟨fun x hx => ?_, fun x hx => ?_, fun x hx => ?_⟩, ?_, ?_, ?_⟩
 ·show getC (putL t.mt b s) x = _
  rw [put_get b s g.mt, if_neg hx]
 ·show getC (payT t h b).dt x = _
  rw [(payT_same t h b).2.2.1]
 ·show inI (offI t.rev b) x = _
  rw [off_in]; simp [hx]
 ·show getC (putL t.mt b s) b = _
  rw [put_get b s g.mt, if_pos rfl]
 ·exact (payT_same t h b).2.2.1
 ·show inI (offI t.rev b) b = _
  rw [off_in]; simp
theorem fil_d {t : Txn} {h b : Int} {s : ByteArray} (e : filE t h b s = 0) (hg : goodT t = true) : ChgD t (filT t h b s) b ∧ getC (filT t h b s).dt b = some s ∧ (filT t h b s).mt = t.mt ∧ (filT t h b s).rev = t.rev := by
 have g := goodT_of.1 hg
 unfold filT
 rw [if_pos e]
 refine ⟨⟨fun x hx => rfl, fun x hx => ?_, fun x hx => rfl⟩, ?_, rfl, rfl⟩
 ·show getC (putL t.dt b s) x = _
  rw [put_get b s g.dt, if_neg hx]
 ·show getC (putL t.dt b s) b = _
  rw [put_get b s g.dt, if_pos rfl]
theorem rvk_d {t : Txn} {h b : Int} (e : rvkE t h b = 0) : ChgD t (rvkT t h b) b ∧ getC (rvkT t h b).mt b = none ∧ getC (rvkT t h b).dt b = none ∧ inI (rvkT t h b).rev b = true := by
 unfold rvkT
 rw [if_pos e]
 refine ⟨⟨fun x hx => ?_, fun x hx => ?_, fun x hx => ?_⟩, ?_, ?_, ?_⟩
 ·show getC (dropC t.mt b) x = _
  rw [drop_get, if_neg hx]
 ·show getC (dropC t.dt b) x = _
  rw [drop_get, if_neg hx]
 ·show inI (insI t.rev b) x = _
  rw [ins_in]; simp [hx]
 ·show getC (dropC t.mt b) b = _
  rw [drop_get, if_pos rfl]
 ·show getC (dropC t.dt b) b = _
  rw [drop_get, if_pos rfl]
 ·show inI (insI t.rev b) b = _
  rw [ins_in]; simp
theorem ChgD.top {t u : Txn} {b : Int} (h : ChgD t u b) {x : Int} (hx : x ≠ b) : topT u x = topT t x := topT_congr (h.mt x hx) (h.dt x hx) (h.rev x hx)
theorem ChgD.turn {t u : Txn} {b : Int} (h : ChgD t u b) {x : Int} (hx : x ≠ b) (o : Option ByteArray) : turnT u o x = turnT t o x := turnT_congr (h.mt x hx) (h.rev x hx)
theorem ChgD.hasD {t u : Txn} {b : Int} (h : ChgD t u b) {x : Int} (hx : x ≠ b) : hasB u.dt x = hasB t.dt x := by rw [hasB_get, hasB_get, h.dt x hx]
theorem readX_congr {j k : Jn} {b : Int} (h1 : topT k.now b = topT j.now b) (h2 : k.sealed = j.sealed) (h3 : k.done = j.done) (h4 : k.disk = j.disk) : readX k b = readX j b := by
 unfold readX homeX; rw [h1, h2, h3, h4]
theorem setF_self (f : Int → Int) (b v : Int) : setF f b v b = v := by simp [setF]
theorem setF_ne {f : Int → Int} {b v x : Int} (h : x ≠ b) : setF f b v x = f x := by simp [setF, h]
theorem role_change {j : Jn} {a : Aj} (he : altE j a = 0) (hb : isBlk a.b = true) : (changeJ j a).1.roles a.b = altTo j a ∧ ∀ x, x ≠ a.b → (changeJ j a).1.roles x = j.roles x := by
 unfold changeJ
 rw [if_pos he]
 dsimp only
 have hr : roleJ j a.b = j.roles a.b := by unfold roleJ; rw [if_pos hb]
 split
 ·exact ⟨setF_self _ _ _, fun x hx => setF_ne hx⟩
 ·rename_i hn
  refine ⟨?_, fun x _ => rfl⟩
  apply Classical.byContradiction
  intro hne
  exact hn ⟨hb, fun h => hne (by rw [h, hr])⟩
theorem vi_alt {j k : Jn} {b : Int} (v : VI j) (hD : ChgD j.now k.now b) (hs : k.sealed = j.sealed) (hd : k.done = j.done) (hr : ∀ x, x ≠ b → k.roles x = j.roles x)
    (ha : isBlk b = true → (turnT k.now (turnT j.sealed (newestB j.done b) b) b).isSome = true → k.roles b = 1) (hb : hasB k.now.dt b = true → turnT j.sealed (newestB j.done b) b = none) : VI k := by
 refine ⟨fun x hx h => ?_, fun x h => ?_, fun x h => ?_⟩
 ·rw [hs, hd] at h
  by_cases e : x = b
  ·rw [e] at h hx ⊢; exact ha hx h
  ·rw [hD.turn e] at h
   rw [hr x e]
   exact v.a x hx h
 ·rw [hs, hd]
  by_cases e : x = b
  ·rw [e] at h ⊢; exact hb h
  ·rw [hD.hasD e] at h
   exact v.b x h
 ·rw [hs] at h
  rw [hd]
  exact v.c x h
theorem vi_same {j k : Jn} (v : VI j) (hn : k.now = j.now) (hs : k.sealed = j.sealed) (hd : k.done = j.done) (hr : k.roles = j.roles) : VI k :=
 ⟨by rw [hn, hs, hd, hr]; exact v.a, by rw [hn, hs, hd]; exact v.b, by rw [hs, hd]; exact v.c⟩
theorem vi_zero {j : Jn} {q p : Int} (hn : j.now = txn0 q) (hs : j.sealed = txn0 p) (hd : j.done = []) : VI j := by
 refine ⟨fun b _ h => ?_, fun b h => ?_, fun b h => ?_⟩
 ·rw [hn, hs, hd] at h; cases h
 ·rw [hs, hd]; rfl
 ·rw [hd]; rfl
def KeepX (j k : Jn) (b : Int) : Prop := (∀ s, readX j b = some s → readX k b = some s) ∧ k.roles b = j.roles b
theorem KeepX.refl (j : Jn) (b : Int) : KeepX j j b := ⟨fun _ h => h, rfl⟩
theorem vi_change {j : Jn} {a : Aj} (hg : goodT j.now = true) (v : VI j) (hk : a.kind = 1 ∨ a.kind = 2 ∨ a.kind = 3 ∨ a.kind = 4 ∨ a.kind = 5) :
    VI (changeJ j a).1 ∧ ((a.kind = 2 ∨ a.kind = 3) → (changeJ j a).2 = 0 → isBlk a.b = true ∧ readX (changeJ j a).1 a.b = some (fit a.text) ∧ (changeJ j a).1.roles a.b ≠ 0) ∧
    ∀ b, ((a.kind = 2 ∨ a.kind = 3 ∨ a.kind = 4) → (changeJ j a).2 = 0 → b ≠ a.b) → KeepX j (changeJ j a).1 b := by
 by_cases he : altE j a = 0
 rotate_left
 ·have h1 : changeJ j a = (j, altE j a) := by unfold changeJ; rw [if_neg he]
  rw [h1]
  exact ⟨v, fun _ h => absurd h he, fun b _ => KeepX.refl j b⟩
 have hc : (changeJ j a).2 = 0 := by unfold changeJ; rw [if_pos he]
 have hnow : (changeJ j a).1.now = altT j a := by unfold changeJ; rw [if_pos he]
 have hsl : (changeJ j a).1.sealed = j.sealed := by unfold changeJ; rw [if_pos he]
 have hdn : (changeJ j a).1.done = j.done := by unfold changeJ; rw [if_pos he]
 have hdk : (changeJ j a).1.disk = j.disk := by unfold changeJ; rw [if_pos he]
 have key : ChgD j.now (altT j a) a.b → isBlk a.b = true → (isBlk a.b = true → (turnT (altT j a) (turnT j.sealed (newestB j.done a.b) a.b) a.b).isSome = true → altTo j a = 1) → (hasB (altT j a).dt a.b = true → turnT j.sealed (newestB j.done a.b) a.b = none) →
     VI (changeJ j a).1 ∧ ∀ b, b ≠ a.b → KeepX j (changeJ j a).1 b := by
  intro hD hb h1 h2
  obtain ⟨r1, r2⟩ := role_change he hb
  refine ⟨vi_alt (b := a.b) v (by rw [hnow]; exact hD) hsl hdn r2 (by rw [hnow, r1]; exact h1) (by rw [hnow]; exact h2), fun b hne => ⟨fun s hs => ?_, r2 b hne⟩⟩
  rw [readX_congr (by rw [hnow]; exact hD.top hne) hsl hdn hdk]
  exact hs
 have same : (altT j a).mt = j.now.mt → (altT j a).dt = j.now.dt → (altT j a).rev = j.now.rev → altTo j a = roleJ j a.b → VI (changeJ j a).1 ∧ ∀ b, KeepX j (changeJ j a).1 b := by
  intro e1 e2 e3 e4
  have hr : (changeJ j a).1.roles = j.roles := by
   unfold changeJ
   rw [if_pos he]
   dsimp only
   rw [if_neg (by rw [e4]; exact fun h => h.2 rfl)]
  have hD : ChgD j.now (altT j a) a.b := ⟨fun x _ => by rw [e1], fun x _ => by rw [e2], fun x _ => by rw [e3]⟩
  refine ⟨vi_alt (b := a.b) v (by rw [hnow]; exact hD) hsl hdn (fun x _ => by rw [hr]) (fun hb h => ?_) (fun h => ?_), fun b => ⟨fun s hs => ?_, by rw [hr]⟩⟩
  ·have hT : ∀ o, turnT (altT j a) o a.b = turnT j.now o a.b := fun o => turnT_congr (by rw [e1]) (by rw [e3])
   rw [hnow, hT] at h
   rw [hr]
   exact v.a _ hb h
  ·rw [hnow, e2] at h
   exact v.b _ h
  ·rw [readX_congr (by rw [hnow]; exact topT_congr (by rw [e1]) (by rw [e2]) (by rw [e3])) hsl hdn hdk]
   exact hs
 rcases hk with hk | hk | hk | hk | hk
 ·
  have e : altT j a = begT j.now a.h a.n (frJ j) := by unfold altT; rw [if_pos hk]
  have e2 : begT j.now a.h a.n (frJ j) = j.now ∨ ∃ x, begT j.now a.h a.n (frJ j) = setH j.now a.h x := by unfold begT; split; exact .inr ⟨_, rfl⟩; exact .inl rfl
  have e3 : (altT j a).mt = j.now.mt ∧ (altT j a).dt = j.now.dt ∧ (altT j a).rev = j.now.rev := by
   rw [e]
   rcases e2 with h | ⟨x, h⟩
   ·rw [h]; exact ⟨rfl, rfl, rfl⟩
   ·rw [h]; exact (setH_same _ _ _).2
  obtain ⟨s1, s2⟩ := same e3.1 e3.2.1 e3.2.2 (by unfold altTo; rw [if_neg (by omega), if_neg (by omega), if_neg (by omega)])
  exact ⟨s1, fun h => by omega, fun b _ => s2 b⟩
 ·
  have e : altT j a = chgT j.now a.h a.b (fit a.text) := by unfold altT; rw [if_neg (by omega), if_neg (by omega), if_pos hk]
  have hz : orE (chgE j.now a.h a.b (fit a.text)) (roleJ j a.b = 2) 8 = 0 := by have := he; unfold altE at this; rw [if_neg (by omega), if_neg (by omega), if_pos hk] at this; exact this
  obtain ⟨z1, _⟩ := orE_zero (by decide) hz
  obtain ⟨z2, z3⟩ := chg_zero z1
  have hb := (may_zero z2).2.2.2
  obtain ⟨d1, d2, d3, d4⟩ := chg_d z1 hg
  have hto : altTo j a = 1 := by unfold altTo; rw [if_pos hk]
  obtain ⟨s1, s2⟩ := key (by rw [e]; exact d1) hb (fun _ _ => hto) (fun h => by rw [e, d3, z3] at h; cases h)
  refine ⟨s1, fun _ _ => ⟨hb, ?_, ?_⟩, fun b h => s2 b (h (.inl hk) hc)⟩
  ·unfold readX topT
   rw [hnow, e, d2]
  ·rw [(role_change he hb).1, hto]; decide
 ·
  have e : altT j a = filT j.now a.h a.b (fit a.text) := by unfold altT; rw [if_neg (by omega), if_neg (by omega), if_neg (by omega), if_pos hk]
  have hz : orE (orE (filE j.now a.h a.b (fit a.text)) (roleJ j a.b = 1) 8) (j.last < j.freed a.b) 9 = 0 := by have := he; unfold altE at this; rw [if_neg (by omega), if_neg (by omega), if_neg (by omega), if_pos hk] at this; exact this
  obtain ⟨z0, _⟩ := orE_zero (by decide) hz
  obtain ⟨z1, z4⟩ := orE_zero (by decide) z0
  obtain ⟨z2, z3, z5⟩ := fil_zero z1
  have hb := (may_zero z2).2.2.2
  obtain ⟨d1, d2, d3, d4⟩ := fil_d z1 hg
  have hto : altTo j a = 2 := by unfold altTo; rw [if_neg (by omega), if_pos hk]
  have hrl : roleJ j a.b = j.roles a.b := by unfold roleJ; rw [if_pos hb]
  have hT : turnT (altT j a) (turnT j.sealed (newestB j.done a.b) a.b) a.b = turnT j.now (turnT j.sealed (newestB j.done a.b) a.b) a.b := by rw [e]; exact turnT_congr (by rw [d3]) (by rw [d4])
  have hN : turnT j.now (turnT j.sealed (newestB j.done a.b) a.b) a.b = turnT j.sealed (newestB j.done a.b) a.b := turnT_else (getC_none z3) z5
  obtain ⟨s1, s2⟩ := key (by rw [e]; exact d1) hb (fun _ h => by rw [hT] at h; exact absurd (v.a _ hb h) (by rw [← hrl]; exact z4)) (fun _ => by
   cases hx : turnT j.sealed (newestB j.done a.b) a.b with
   | none => rfl
   | some y => exact absurd (v.a _ hb (by rw [hN, hx]; rfl)) (by rw [← hrl]; exact z4))
  refine ⟨s1, fun _ _ => ⟨hb, ?_, ?_⟩, fun b h => s2 b (h (.inr (.inl hk)) hc)⟩
  ·unfold readX topT
   rw [hnow, e, d3, getC_none z3, d2]
  ·rw [(role_change he hb).1, hto]; decide
 ·
  have e : altT j a = rvkT j.now a.h a.b := by unfold altT; rw [if_neg (by omega), if_neg (by omega), if_neg (by omega), if_neg (by omega)]
  have hz : orE (rvkE j.now a.h a.b) (roleJ j a.b = 0) 8 = 0 := by have := he; unfold altE at this; rw [if_neg (by omega), if_neg (by omega), if_neg (by omega), if_neg (by omega), if_pos hk] at this; exact this
  obtain ⟨z1, _⟩ := orE_zero (by decide) hz
  have hb := (may_zero (rvk_zero z1)).2.2.2
  obtain ⟨d1, d2, d3, d4⟩ := rvk_d z1
  obtain ⟨s1, s2⟩ := key (by rw [e]; exact d1) hb (fun _ h => by rw [e, turnT_rev d2 d4] at h; cases h) (fun h => by rw [e, hasB_get, d3] at h; cases h)
  exact ⟨s1, fun h => by omega, fun b h => s2 b (h (.inr (.inr hk)) hc)⟩
 ·
  have e : altT j a = stopT j.now a.h := by unfold altT; rw [if_neg (by omega), if_pos hk]
  have e2 : stopT j.now a.h = j.now ∨ ∃ x, stopT j.now a.h = setH j.now a.h x := by unfold stopT; split; exact .inr ⟨_, rfl⟩; exact .inl rfl
  have e3 : (altT j a).mt = j.now.mt ∧ (altT j a).dt = j.now.dt ∧ (altT j a).rev = j.now.rev := by
   rw [e]
   rcases e2 with h | ⟨x, h⟩
   ·rw [h]; exact ⟨rfl, rfl, rfl⟩
   ·rw [h]; exact (setH_same _ _ _).2
  obtain ⟨s1, s2⟩ := same e3.1 e3.2.1 e3.2.2 (by unfold altTo; rw [if_neg (by omega), if_neg (by omega), if_neg (by omega)])
  exact ⟨s1, fun h => by omega, fun b _ => s2 b⟩
theorem vi_commit {j : Jn} (h0 : j.work = 0 → j.sealed = txn0 0) (v : VI j) : VI (commitJ j).1 ∧ ∀ b, KeepX j (commitJ j).1 b := by
 unfold commitJ
 split
 ·exact ⟨v, fun b => KeepX.refl j b⟩
 rename_i hw
 have hs := h0 (Classical.byContradiction fun h => hw (.inl h))
 split
 ·exact ⟨v, fun b => KeepX.refl j b⟩
 split
 ·exact ⟨v, fun b => KeepX.refl j b⟩
 split
 ·exact ⟨v, fun b => KeepX.refl j b⟩
 dsimp only
 refine ⟨⟨fun b hb h => ?_, fun b h => ?_, fun b h => ?_⟩, fun b => ⟨fun s h => ?_, rfl⟩⟩
 ·have := v.a b hb
  rw [hs] at this
  exact this h
 ·cases h
 ·have := v.b b h
  rw [hs] at this
  exact this
 ·rw [← h]
  unfold readX
  rw [hs]
  dsimp only
  rw [top_txn0, top_txn0]
  cases topT j.now b <;> rfl
theorem vi_check {j : Jn} (v : VI j) : VI (checkJ j).1 ∧ ∀ b, KeepX j (checkJ j).1 b := by
 unfold checkJ
 split
 ·exact ⟨v, fun b => KeepX.refl j b⟩
 split
 ·exact ⟨v, fun b => KeepX.refl j b⟩
 ·exact ⟨vi_same v rfl rfl rfl rfl, fun b => ⟨fun s h => h, rfl⟩⟩
theorem nat_home {b : Int} (hb : isBlk b = true) : ∃ k : Nat, (25 + b) = (k : Int) ∧ k < 37 ∧ 25 ≤ k := by
 unfold isBlk at hb
 have := of_decide_eq_true hb
 exact ⟨(25 + b).toNat, by omega, by omega, by omega⟩
theorem has_mem {l : List Cpy} {c : Cpy} (hc : c ∈ l) : hasB l c.block = true := by
 unfold hasB
 rw [List.any_eq_true]
 exact ⟨c, hc, by simp⟩
theorem com_home {r : Ring} {t : Txn} {d : Dsk} {k : Nat} {b : Int} (he : comE r t = 0) (hg : goodD d = true) (hw : d.writes = []) (hb : isBlk b = true) (hn : hasB t.dt b = false) : readD (runD d ((comL r t).take k)) (25 + b) = readD d (25 + b) := by
 obtain ⟨n, h1, h2, h3⟩ := nat_home hb
 obtain ⟨ho, hl⟩ := com_ok he
 rw [h1]
 refine run_read_none hg (fun s hs => ho s (List.mem_of_mem_take hs)) (by rw [hw, List.length_take]; simp; omega) h2 ?_
 intro x hx hf hat
 have hx2 := List.mem_of_mem_take hx
 rw [comL_split he] at hx2
 have hlog : ∀ (p : Int) (s : ByteArray), (atW (p % 24) s).at_ = n → False := fun p s h => by
  have h5 : (1 : Int) + p % 24 = n := h
  omega
 rcases List.mem_append.1 hx2 with h | h
 ·rcases mem_comA h with rfl | ⟨c, hc, rfl⟩ | ⟨j, hj, rfl⟩
  ·exact hf rfl
  ·have h4 : (25 : Int) + c.block = n := hat
   have h5 : c.block = b := by omega
   have h6 := has_mem hc
   rw [h5, hn] at h6
   cases h6
  ·exact hlog _ _ hat
 ·rcases List.mem_cons.1 h with rfl | h
  ·exact hlog _ _ hat
  ·obtain rfl := List.mem_singleton.1 h
   exact hf rfl
theorem com_home_end {r : Ring} {t : Txn} {d : Dsk} {b : Int} {s : ByteArray} (he : comE r t = 0) (hg : goodD d = true) (hw : d.writes = []) (hb : isBlk b = true) (hn : getC t.dt b = some s) : readD (runD d (comL r t)) (25 + b) = s := by
 obtain ⟨n, h1, h2, h3⟩ := nat_home hb
 obtain ⟨ho, hl⟩ := com_ok he
 have g := (comE_zero he).2.1
 have hmem : (⟨b, s⟩ : Cpy) ∈ t.dt := by
  have := (mem_getC (copies_pw _ |>.1 g.dt).1 ⟨b, s⟩).2 hn
  exact this
 have hlog : ∀ (p : Int) (s : ByteArray), (atW (p % 24) s).at_ = n → False := fun p s h => by
  have h5 : (1 : Int) + p % 24 = n := h
  omega
 rw [h1]
 refine run_read _ hg ho (by rw [hw]; simp; omega) h2 ?_ (.inl ⟨wrS (25 + b) s, ?_, wr_kind _ _, h1⟩)
 ·intro x hx hf hat
  rw [comL_split he] at hx
  rcases List.mem_append.1 hx with h | h
  ·rcases mem_comA h with rfl | ⟨c, hc, rfl⟩ | ⟨j, hj, rfl⟩
   ·exact absurd rfl hf
   ·have h4 : (25 : Int) + c.block = n := hat
    exact dt_one g hc hmem (show c.block = b by omega)
   ·exact (hlog _ _ hat).elim
  ·rcases List.mem_cons.1 h with rfl | h
   ·exact (hlog _ _ hat).elim
   ·obtain rfl := List.mem_singleton.1 h
    exact absurd rfl hf
 ·rw [comL_split he]
  refine List.mem_append_left _ ?_
  unfold comA dataS
  exact List.mem_append_left _ (List.mem_append_left _ (List.mem_map.2 ⟨⟨b, s⟩, hmem, rfl⟩))
theorem chk_home {l : List Txn} {a q : Int} {d : Dsk} {k : Nat} {b : Int} (hgs : ∀ t ∈ l, goodT t = true) (ha : 0 ≤ a ∧ a < 24) (hq : 1 ≤ q ∧ q ≤ 2147483647) (hg : goodD d = true) (hw : d.writes = []) (hb : isBlk b = true) (hn : newestB l b = none) : readD (runD d ((checkL (newestL l) a q).take k)) (25 + b) = readD d (25 + b) := by
 obtain ⟨n, h1, h2, h3⟩ := nat_home hb
 have g := newestL_copies hgs
 obtain ⟨ho, hl⟩ := chk_ok g ha hq
 rw [h1]
 refine run_read_none hg (fun s hs => ho s (List.mem_of_mem_take hs)) (by rw [hw, List.length_take]; simp; omega) h2 ?_
 intro x hx hf hat
 have hx2 := List.mem_of_mem_take hx
 rw [(check_zero g ha hq).2] at hx2
 rcases List.mem_append.1 hx2 with h | h
 ·rcases mem_home h with rfl | ⟨c, hc, rfl⟩
  ·exact hf rfl
  ·have h4 : (25 : Int) + c.block = n := hat
   have h5 : c.block = b := by omega
   have h6 := (mem_getC (copies_pw _ |>.1 g).1 c).1 hc
   rw [h5, newestL_get hgs, hn] at h6
   cases h6
 ·rcases List.mem_cons.1 h with rfl | h
  ·have h4 : (0 : Int) = n := hat
   omega
  ·obtain rfl := List.mem_singleton.1 h
   exact hf rfl
theorem chk_home_end {l : List Txn} {a q : Int} {d : Dsk} {b : Int} {s : ByteArray} (hgs : ∀ t ∈ l, goodT t = true) (ha : 0 ≤ a ∧ a < 24) (hq : 1 ≤ q ∧ q ≤ 2147483647) (hg : goodD d = true) (hw : d.writes = []) (hb : isBlk b = true) (hn : newestB l b = some s) : readD (runD d (checkL (newestL l) a q)) (25 + b) = s := by
 obtain ⟨n, h1, h2, h3⟩ := nat_home hb
 have g := newestL_copies hgs
 obtain ⟨ho, hl⟩ := chk_ok g ha hq
 have hmem : (⟨b, s⟩ : Cpy) ∈ newestL l := (mem_getC (copies_pw _ |>.1 g).1 ⟨b, s⟩).2 (by rw [newestL_get hgs]; exact hn)
 rw [h1]
 refine run_read _ hg ho (by rw [hw]; simp; omega) h2 ?_ (.inl ⟨wrS (25 + b) s, ?_, wr_kind _ _, h1⟩)
 ·intro x hx hf hat
  rw [(check_zero g ha hq).2] at hx
  rcases List.mem_append.1 hx with h | h
  ·rcases mem_home h with rfl | ⟨c, hc, rfl⟩
   ·exact absurd rfl hf
   ·have h4 : (25 : Int) + c.block = n := hat
    exact cpy_one g hc hmem (show c.block = b by omega)
  ·rcases List.mem_cons.1 h with rfl | h
   ·have h4 : (0 : Int) = n := hat
    omega
   ·obtain rfl := List.mem_singleton.1 h
    exact absurd rfl hf
 ·rw [(check_zero g ha hq).2]
  refine List.mem_append_left _ ?_
  unfold homeS
  exact List.mem_append_left _ (List.mem_map.2 ⟨⟨b, s⟩, hmem, rfl⟩)
end Wb
