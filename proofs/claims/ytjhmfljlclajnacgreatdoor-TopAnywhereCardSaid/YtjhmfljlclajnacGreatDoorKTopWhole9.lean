/- Parts of the proof: JwI JwJ JnA JwK SeqV Play PlayW PlayB JnY WhD WhE Disk8 Disk7. -/
import Derived.Test.YtjhmfljlclajnacGreatDoorKTopWhole8
import Derived.Deep.RegionHeld3
set_option linter.unusedVariables false
set_option linter.unusedSimpArgs false
set_option maxRecDepth 100000
set_option maxHeartbeats 40000000
namespace Wb
open Go Go.RowKit
theorem permJ {α : Type} (a b c : α) (D L : List α) : (a :: b :: c :: (D ++ L)).Perm (c :: (D ++ (a :: b :: L))) := by
 have h1 : (a :: b :: c :: (D ++ L)).Perm (c :: a :: b :: (D ++ L)) := (List.perm_append_comm (l₁ := [a, b]) (l₂ := [c])).append_right _
 exact h1.trans ((List.perm_append_comm_assoc [a, b] D L).cons c)
theorem permB {α : Type} (a b : α) (M L : List α) : (M ++ (a :: b :: L)).Perm (a :: b :: (M ++ L)) := (List.perm_append_comm_assoc [a, b] M L).symm
theorem JFm.acts {Tt Ti : TypeId} {v : JV} {j : Jn} {ds fs : List TV} {MD MU : List Ent} (h : JFm Tt Ti v j ds fs MD MU) (n : Int) : JFm Tt Ti v { j with acts := n } ds fs MD MU := ⟨h.dn, h.us, h.dmap, h.fmap, h.dfit, h.ffit, h.inv.acts n, h.sz⟩
end Wb
namespace Go.Proofs.YtjhmfljlclajnacGreatDoor
open Go.RowKit Wb
theorem jr_noD (c : Int) (w : World) :
    Calls Tryz.prog 34 #[.int .i64 c] w fun e w' => e = .returned (.agg #[.int .i64 c, .int .i64 0, .string ⟨#[]⟩]) /\ Below w.heap.size w w' := by
 have X : St [] w w [] [] := St.start [] w
 go_enter Tryz.func34, Tryz.ntmps34
 go_wp2_with (first
  | (refine ZyL ?_) | (refine ZyS ?_; clear X; intro w X) | (refine ZyA ?_; clear X; intro g w X))
 exact m_ret1 rfl (.tmp rfl rfl) X (.head _) rfl rfl ⟨rfl, X.below⟩
theorem jr_Do (K : JK) {S : List Nat} {w0 w : World} {L : List Ent} {R : List Rd} {gj : Nat} {j : Jn} {M : List Ent} {Rj : List Rd} (F : JF gj j M Rj) (X : St S w0 w (M ++ L) (Rj ++ R)) (hF : flR 0 ∈ R) (a : Aj) (hs : a.text.size <= 9223372036854775807) (hn : a.n <= 9223372036854775807) (ha : 0 <= j.acts) :
    Calls Tryz.prog 11 #[.pointer (some ⟨gj, 0, none⟩), .agg #[.int .i64 a.kind, .int .i64 a.h, .int .i64 a.b, .int .i64 a.n, .string a.text]] w fun e w' => ∃ M' Rj', e = .returned (doJ j a).2.val /\ JF gj (doJ j a).1 M' Rj' /\ St S w0 w' (M' ++ L) (Rj' ++ R) := by
 obtain ⟨v, ds, fs, MD, MU, hm, rfl, rfl⟩ := F
 rw [List.cons_append] at X
 unfold jCells at X
 have hNo := fun c w => jr_noD c w
 replace hNo := hid hNo
 by_cases h4 : 400 <= j.acts
 ·have hD : doJ j a = (j, noR 11) := by unfold doJ; rw [if_pos h4]
  replace hD := hid hD; replace hm := hid hm
  go_enter Tryz.func11, Tryz.ntmps11
  go_upto_region 1 with (first
   | (refine Zbx ?_; clear X; intro g w X)
   | (refine ZyL ?_) | (refine ZyS ?_; clear X; intro w X) | (refine ZyA ?_; clear X; intro g w X))
  go_wp2_with (first
   | (refine ZyL ?_) | (refine ZyS ?_; clear X; intro w X) | (refine ZyA ?_; clear X; intro g w X)
   | (go_at_call 34; ((with_reducible refine (hNo.out _ _).mono ?_); rintro e w1 ⟨rfl, hb1⟩; replace X := X.call hb1; clear hb1)))
  refine m_ret1 rfl (.tmp rfl rfl) X (.head _) rfl rfl ?_
  rw [hD.out]
  first
   | exact ⟨_, _, rfl, ⟨v, ds, fs, MD, MU, hm.out, rfl, rfl⟩, X.sub (List.Sublist.cons _ (List.sublist_cons_self _ _))⟩
   | exact ⟨rfl, _, _, ⟨v, ds, fs, MD, MU, hm.out, rfl, rfl⟩, X.sub (List.Sublist.cons _ (List.sublist_cons_self _ _))⟩
 ·have hw4 : IntKind.i64.wrap (j.acts + 1) = j.acts + 1 := IntWalk.i64_in _ (by omega)
  have hm1 := hm.acts (j.acts + 1)
  replace hm := hid hm; replace hm1 := hid hm1
  have F1 : JF gj { j with acts := j.acts + 1 } (⟨gj, jCells v { j with acts := j.acts + 1 }, 82⟩ :: (MD ++ MU)) (jRds v { j with acts := j.acts + 1 } ds fs) := ⟨v, ds, fs, MD, MU, hm1.out, rfl, rfl⟩
  replace F1 := hid F1
  by_cases hlo : a.kind < 1
  ·have hD : doJ j a = ({ j with acts := j.acts + 1 }, noR 3) := by unfold doJ; rw [if_neg h4, if_pos (.inl hlo)]
   replace hD := hid hD
   go_enter Tryz.func11, Tryz.ntmps11
   go_upto_region 1 with (first
    | (refine Zbx ?_; clear X; intro g w X)
    | (refine ZyL ?_) | (refine ZyS ?_; clear X; intro w X) | (refine ZyA ?_; clear X; intro g w X))
   go_wp2_with (first
    | (refine ZyL ?_) | (refine ZyS ?_; clear X; intro w X) | (refine ZyA ?_; clear X; intro g w X)
    | (go_at_call 34; ((with_reducible refine (hNo.out _ _).mono ?_); rintro e w1 ⟨rfl, hb1⟩; replace X := X.call hb1; clear hb1)))
   refine m_ret1 rfl (.tmp rfl rfl) X (.head _) rfl rfl ?_
   rw [hD.out]
   first
    | exact ⟨_, _, rfl, F1.out, X.sub (List.Sublist.cons _ (List.sublist_cons_self _ _))⟩
    | exact ⟨rfl, _, _, F1.out, X.sub (List.Sublist.cons _ (List.sublist_cons_self _ _))⟩
  by_cases hhi : 11 < a.kind
  ·have hD : doJ j a = ({ j with acts := j.acts + 1 }, noR 3) := by unfold doJ; rw [if_neg h4, if_pos (.inr hhi)]
   replace hD := hid hD
   go_enter Tryz.func11, Tryz.ntmps11
   go_upto_region 1 with (first
    | (refine Zbx ?_; clear X; intro g w X)
    | (refine ZyL ?_) | (refine ZyS ?_; clear X; intro w X) | (refine ZyA ?_; clear X; intro g w X))
   go_wp2_with (first
    | (refine ZyL ?_) | (refine ZyS ?_; clear X; intro w X) | (refine ZyA ?_; clear X; intro g w X)
    | (go_at_call 34; ((with_reducible refine (hNo.out _ _).mono ?_); rintro e w1 ⟨rfl, hb1⟩; replace X := X.call hb1; clear hb1)))
   refine m_ret1 rfl (.tmp rfl rfl) X (.head _) rfl rfl ?_
   rw [hD.out]
   first
    | exact ⟨_, _, rfl, F1.out, X.sub (List.Sublist.cons _ (List.sublist_cons_self _ _))⟩
    | exact ⟨rfl, _, _, F1.out, X.sub (List.Sublist.cons _ (List.sublist_cons_self _ _))⟩
  have hkk : ¬ (a.kind < 1 \/ 11 < a.kind) := by omega
  by_cases k10 : a.kind = 10
  ·have hD : doJ j a = noJ (crashJ { j with acts := j.acts + 1 } a.n) := by unfold doJ; rw [if_neg h4, if_neg hkk, if_pos k10]
   replace hD := hid hD
   have f10 : (a.kind == 10) = true := by rw [k10]; rfl
   go_enter Tryz.func11, Tryz.ntmps11
   go_upto_region 1 with (first
    | (refine Zbx ?_; clear X; intro g w X)
    | (refine ZyL ?_) | (refine ZyS ?_; clear X; intro w X) | (refine ZyA ?_; clear X; intro g w X))
   go_upto_region 10 with (first
    | (refine ZyL ?_) | (refine ZyS ?_; clear X; intro w X) | (refine ZyA ?_; clear X; intro g w X))
   have hC := hid (jr_crash K F1.out (X.perm (permJ _ _ _ _ _)) a.n hn)
   go_wp2_with (first
    | (refine ZyL ?_) | (refine ZyS ?_; clear X; intro w X) | (refine ZyA ?_; clear X; intro g w X)
    | (go_at_call 35; ((with_reducible refine (hC.out).mono ?_); rintro e w1 ⟨M2, R2, rfl, F2, X2⟩; replace X := X2.perm (permB _ _ _ _); clear X2))
    | (go_at_call 34; ((with_reducible refine (hNo.out _ _).mono ?_); rintro e w1 ⟨rfl, hb1⟩; replace X := X.call hb1; clear hb1)))
   refine m_ret1 rfl (.tmp rfl rfl) X (.head _) rfl rfl ?_
   rw [hD.out]
   first
    | exact ⟨_, _, rfl, F2, X.sub (List.Sublist.cons _ (List.sublist_cons_self _ _))⟩
    | exact ⟨rfl, _, _, F2, X.sub (List.Sublist.cons _ (List.sublist_cons_self _ _))⟩
  by_cases k11 : a.kind = 11
  ·have hD : doJ j a = noJ (beginJ { j with acts := j.acts + 1 }) := by unfold doJ; rw [if_neg h4, if_neg hkk, if_neg k10, if_pos k11]
   replace hD := hid hD
   have f10 : (a.kind == 10) = false := beq_eq_false_iff_ne.2 k10
   have f11 : (a.kind == 11) = true := by rw [k11]; rfl
   go_enter Tryz.func11, Tryz.ntmps11
   go_upto_region 1 with (first
    | (refine Zbx ?_; clear X; intro g w X)
    | (refine ZyL ?_) | (refine ZyS ?_; clear X; intro w X) | (refine ZyA ?_; clear X; intro g w X))
   go_upto_region 12 with (first
    | (refine ZyL ?_) | (refine ZyS ?_; clear X; intro w X) | (refine ZyA ?_; clear X; intro g w X))
   have hC := hid (jr_begin K F1.out (X.perm (permJ _ _ _ _ _)) hF)
   go_wp2_with (first
    | (refine ZyL ?_) | (refine ZyS ?_; clear X; intro w X) | (refine ZyA ?_; clear X; intro g w X)
    | (go_at_call 36; ((with_reducible refine (hC.out).mono ?_); rintro e w1 ⟨M2, R2, rfl, F2, X2⟩; replace X := X2.perm (permB _ _ _ _); clear X2))
    | (go_at_call 34; ((with_reducible refine (hNo.out _ _).mono ?_); rintro e w1 ⟨rfl, hb1⟩; replace X := X.call hb1; clear hb1)))
   refine m_ret1 rfl (.tmp rfl rfl) X (.head _) rfl rfl ?_
   rw [hD.out]
   first
    | exact ⟨_, _, rfl, F2, X.sub (List.Sublist.cons _ (List.sublist_cons_self _ _))⟩
    | exact ⟨rfl, _, _, F2, X.sub (List.Sublist.cons _ (List.sublist_cons_self _ _))⟩
  by_cases k8 : a.kind = 8
  ·have hD : doJ j a = stepJ { j with acts := j.acts + 1 } := by unfold doJ; rw [if_neg h4, if_neg hkk, if_neg k10, if_neg k11, if_pos k8]
   replace hD := hid hD
   have f10 : (a.kind == 10) = false := beq_eq_false_iff_ne.2 k10
   have f11 : (a.kind == 11) = false := beq_eq_false_iff_ne.2 k11
   have f8 : (a.kind == 8) = true := by rw [k8]; rfl
   go_enter Tryz.func11, Tryz.ntmps11
   go_upto_region 1 with (first
    | (refine Zbx ?_; clear X; intro g w X)
    | (refine ZyL ?_) | (refine ZyS ?_; clear X; intro w X) | (refine ZyA ?_; clear X; intro g w X))
   go_upto_region 14 with (first
    | (refine ZyL ?_) | (refine ZyS ?_; clear X; intro w X) | (refine ZyA ?_; clear X; intro g w X))
   have hC := hid (jr_step K F1.out (X.perm (permJ _ _ _ _ _)))
   go_wp2_with (first
    | (refine ZyL ?_) | (refine ZyS ?_; clear X; intro w X) | (refine ZyA ?_; clear X; intro g w X)
    | (go_at_call 37; ((with_reducible refine (hC.out).mono ?_); rintro e w1 ⟨M2, R2, rfl, F2, X2⟩; replace X := X2.perm (permB _ _ _ _); clear X2)))
   refine m_ret1 rfl (.tmp rfl rfl) X (.head _) rfl rfl ?_
   rw [hD.out]
   first
    | exact ⟨_, _, rfl, F2, X.sub (List.Sublist.cons _ (List.sublist_cons_self _ _))⟩
    | exact ⟨rfl, _, _, F2, X.sub (List.Sublist.cons _ (List.sublist_cons_self _ _))⟩
  by_cases hd : j.down = true
  ·have hD : doJ j a = ({ j with acts := j.acts + 1 }, noR 10) := by unfold doJ; rw [if_neg h4, if_neg hkk, if_neg k10, if_neg k11, if_neg k8, if_pos hd]
   replace hD := hid hD
   have f10 : (a.kind == 10) = false := beq_eq_false_iff_ne.2 k10
   have f11 : (a.kind == 11) = false := beq_eq_false_iff_ne.2 k11
   have f8 : (a.kind == 8) = false := beq_eq_false_iff_ne.2 k8
   obtain ⟨jx1, jx2, jx3, jx4, jx5, jx6, jx7, jx8, jx9, jx10, jx11, jx12, jx13, jx14, jx15, jx16⟩ := j
   dsimp only at hd X
   subst hd
   go_enter Tryz.func11, Tryz.ntmps11
   go_upto_region 1 with (first
    | (refine Zbx ?_; clear X; intro g w X)
    | (refine ZyL ?_) | (refine ZyS ?_; clear X; intro w X) | (refine ZyA ?_; clear X; intro g w X))
   go_wp2_with (first
    | (refine ZyL ?_) | (refine ZyS ?_; clear X; intro w X) | (refine ZyA ?_; clear X; intro g w X)
    | (go_at_call 34; ((with_reducible refine (hNo.out _ _).mono ?_); rintro e w1 ⟨rfl, hb1⟩; replace X := X.call hb1; clear hb1)))
   refine m_ret1 rfl (.tmp rfl rfl) X (.head _) rfl rfl ?_
   rw [hD.out]
   first
    | exact ⟨_, _, rfl, F1.out, X.sub (List.Sublist.cons _ (List.sublist_cons_self _ _))⟩
    | exact ⟨rfl, _, _, F1.out, X.sub (List.Sublist.cons _ (List.sublist_cons_self _ _))⟩
  have hdf : j.down = false := by simpa using hd
  by_cases k6 : a.kind = 6
  ·have hD : doJ j a = commitJ { j with acts := j.acts + 1 } := by unfold doJ; rw [if_neg h4, if_neg hkk, if_neg k10, if_neg k11, if_neg k8, if_neg hd, if_pos k6]
   replace hD := hid hD
   have f10 : (a.kind == 10) = false := beq_eq_false_iff_ne.2 k10
   have f11 : (a.kind == 11) = false := beq_eq_false_iff_ne.2 k11
   have f8 : (a.kind == 8) = false := beq_eq_false_iff_ne.2 k8
   have f6 : (a.kind == 6) = true := by rw [k6]; rfl
   obtain ⟨jx1, jx2, jx3, jx4, jx5, jx6, jx7, jx8, jx9, jx10, jx11, jx12, jx13, jx14, jx15, jx16⟩ := j
   dsimp only at hdf X
   subst hdf
   go_enter Tryz.func11, Tryz.ntmps11
   go_upto_region 1 with (first
    | (refine Zbx ?_; clear X; intro g w X)
    | (refine ZyL ?_) | (refine ZyS ?_; clear X; intro w X) | (refine ZyA ?_; clear X; intro g w X))
   go_upto_region 19 with (first
    | (refine ZyL ?_) | (refine ZyS ?_; clear X; intro w X) | (refine ZyA ?_; clear X; intro g w X))
   have hC := hid (jr_commit K F1.out (X.perm (permJ _ _ _ _ _)) hF rfl)
   go_wp2_with (first
    | (refine ZyL ?_) | (refine ZyS ?_; clear X; intro w X) | (refine ZyA ?_; clear X; intro g w X)
    | (go_at_call 38; ((with_reducible refine (hC.out).mono ?_); rintro e w1 ⟨M2, R2, rfl, F2, X2⟩; replace X := X2.perm (permB _ _ _ _); clear X2)))
   refine m_ret1 rfl (.tmp rfl rfl) X (.head _) rfl rfl ?_
   rw [hD.out]
   first
    | exact ⟨_, _, rfl, F2, X.sub (List.Sublist.cons _ (List.sublist_cons_self _ _))⟩
    | exact ⟨rfl, _, _, F2, X.sub (List.Sublist.cons _ (List.sublist_cons_self _ _))⟩
  by_cases k7 : a.kind = 7
  ·have hD : doJ j a = noJ (checkJ { j with acts := j.acts + 1 }) := by unfold doJ; rw [if_neg h4, if_neg hkk, if_neg k10, if_neg k11, if_neg k8, if_neg hd, if_neg k6, if_pos k7]
   replace hD := hid hD
   have f10 : (a.kind == 10) = false := beq_eq_false_iff_ne.2 k10
   have f11 : (a.kind == 11) = false := beq_eq_false_iff_ne.2 k11
   have f8 : (a.kind == 8) = false := beq_eq_false_iff_ne.2 k8
   have f6 : (a.kind == 6) = false := beq_eq_false_iff_ne.2 k6
   have f7 : (a.kind == 7) = true := by rw [k7]; rfl
   obtain ⟨jx1, jx2, jx3, jx4, jx5, jx6, jx7, jx8, jx9, jx10, jx11, jx12, jx13, jx14, jx15, jx16⟩ := j
   dsimp only at hdf X
   subst hdf
   go_enter Tryz.func11, Tryz.ntmps11
   go_upto_region 1 with (first
    | (refine Zbx ?_; clear X; intro g w X)
    | (refine ZyL ?_) | (refine ZyS ?_; clear X; intro w X) | (refine ZyA ?_; clear X; intro g w X))
   go_upto_region 21 with (first
    | (refine ZyL ?_) | (refine ZyS ?_; clear X; intro w X) | (refine ZyA ?_; clear X; intro g w X))
   have hC := hid (jr_check K F1.out (X.perm (permJ _ _ _ _ _)) hF)
   go_wp2_with (first
    | (refine ZyL ?_) | (refine ZyS ?_; clear X; intro w X) | (refine ZyA ?_; clear X; intro g w X)
    | (go_at_call 39; ((with_reducible refine (hC.out).mono ?_); rintro e w1 ⟨M2, R2, rfl, F2, X2⟩; replace X := X2.perm (permB _ _ _ _); clear X2))
    | (go_at_call 34; ((with_reducible refine (hNo.out _ _).mono ?_); rintro e w1 ⟨rfl, hb1⟩; replace X := X.call hb1; clear hb1)))
   refine m_ret1 rfl (.tmp rfl rfl) X (.head _) rfl rfl ?_
   rw [hD.out]
   first
    | exact ⟨_, _, rfl, F2, X.sub (List.Sublist.cons _ (List.sublist_cons_self _ _))⟩
    | exact ⟨rfl, _, _, F2, X.sub (List.Sublist.cons _ (List.sublist_cons_self _ _))⟩
  by_cases k9 : a.kind = 9
  ·have hD : doJ j a = ({ j with acts := j.acts + 1 }, readJ { j with acts := j.acts + 1 } a.b) := by unfold doJ; rw [if_neg h4, if_neg hkk, if_neg k10, if_neg k11, if_neg k8, if_neg hd, if_neg k6, if_neg k7, if_pos k9]
   replace hD := hid hD
   have f10 : (a.kind == 10) = false := beq_eq_false_iff_ne.2 k10
   have f11 : (a.kind == 11) = false := beq_eq_false_iff_ne.2 k11
   have f8 : (a.kind == 8) = false := beq_eq_false_iff_ne.2 k8
   have f6 : (a.kind == 6) = false := beq_eq_false_iff_ne.2 k6
   have f7 : (a.kind == 7) = false := beq_eq_false_iff_ne.2 k7
   have f9 : (a.kind == 9) = true := by rw [k9]; rfl
   obtain ⟨jx1, jx2, jx3, jx4, jx5, jx6, jx7, jx8, jx9, jx10, jx11, jx12, jx13, jx14, jx15, jx16⟩ := j
   dsimp only at hdf X
   subst hdf
   go_enter Tryz.func11, Tryz.ntmps11
   go_upto_region 1 with (first
    | (refine Zbx ?_; clear X; intro g w X)
    | (refine ZyL ?_) | (refine ZyS ?_; clear X; intro w X) | (refine ZyA ?_; clear X; intro g w X))
   go_upto_region 23 with (first
    | (refine ZyL ?_) | (refine ZyS ?_; clear X; intro w X) | (refine ZyA ?_; clear X; intro g w X))
   have hC := hid (jr_read K F1.out (X.perm (permJ _ _ _ _ _)) a.b)
   go_wp2_with (first
    | (refine ZyL ?_) | (refine ZyS ?_; clear X; intro w X) | (refine ZyA ?_; clear X; intro g w X)
    | (go_at_call 40; ((with_reducible refine (hC.out).mono ?_); rintro e w1 ⟨M2, R2, rfl, F2, X2⟩; replace X := X2.perm (permB _ _ _ _); clear X2)))
   refine m_ret1 rfl (.tmp rfl rfl) X (.head _) rfl rfl ?_
   rw [hD.out]
   first
    | exact ⟨_, _, rfl, F2, X.sub (List.Sublist.cons _ (List.sublist_cons_self _ _))⟩
    | exact ⟨rfl, _, _, F2, X.sub (List.Sublist.cons _ (List.sublist_cons_self _ _))⟩
  have hD : doJ j a = noJ (changeJ { j with acts := j.acts + 1 } a) := by unfold doJ; rw [if_neg h4, if_neg hkk, if_neg k10, if_neg k11, if_neg k8, if_neg hd, if_neg k6, if_neg k7, if_neg k9]
  replace hD := hid hD
  have f10 : (a.kind == 10) = false := beq_eq_false_iff_ne.2 k10
  have f11 : (a.kind == 11) = false := beq_eq_false_iff_ne.2 k11
  have f8 : (a.kind == 8) = false := beq_eq_false_iff_ne.2 k8
  have f6 : (a.kind == 6) = false := beq_eq_false_iff_ne.2 k6
  have f7 : (a.kind == 7) = false := beq_eq_false_iff_ne.2 k7
  have f9 : (a.kind == 9) = false := beq_eq_false_iff_ne.2 k9
  obtain ⟨jx1, jx2, jx3, jx4, jx5, jx6, jx7, jx8, jx9, jx10, jx11, jx12, jx13, jx14, jx15, jx16⟩ := j
  dsimp only at hdf X
  subst hdf
  go_enter Tryz.func11, Tryz.ntmps11
  go_upto_region 1 with (first
   | (refine Zbx ?_; clear X; intro g w X)
   | (refine ZyL ?_) | (refine ZyS ?_; clear X; intro w X) | (refine ZyA ?_; clear X; intro g w X))
  go_upto_region 24 with (first
   | (refine ZyL ?_) | (refine ZyS ?_; clear X; intro w X) | (refine ZyA ?_; clear X; intro g w X))
  have hC := hid (jr_change K F1.out (X.perm (permJ _ _ _ _ _)) a hs (by omega) rfl)
  go_wp2_with (first
   | (refine ZyL ?_) | (refine ZyS ?_; clear X; intro w X) | (refine ZyA ?_; clear X; intro g w X)
   | (go_at_call 41; ((with_reducible refine (hC.out).mono ?_); rintro e w1 ⟨M2, R2, rfl, F2, X2⟩; replace X := X2.perm (permB _ _ _ _); clear X2))
   | (go_at_call 34; ((with_reducible refine (hNo.out _ _).mono ?_); rintro e w1 ⟨rfl, hb1⟩; replace X := X.call hb1; clear hb1)))
  refine m_ret1 rfl (.tmp rfl rfl) X (.head _) rfl rfl ?_
  rw [hD.out]
  first
   | exact ⟨_, _, rfl, F2, X.sub (List.Sublist.cons _ (List.sublist_cons_self _ _))⟩
   | exact ⟨rfl, _, _, F2, X.sub (List.Sublist.cons _ (List.sublist_cons_self _ _))⟩
theorem mem2J {α : Type} {a b r : α} {R : List α} (h : r ∈ [a, b]) : r ∈ a :: b :: R := by
 rcases List.mem_cons.1 h with rfl | h
 ·exact .head _
 ·rcases List.mem_singleton.1 h with rfl; exact .tail _ (.head _)
theorem rdisk0 {w : World} {a1 : Option Addr} {c1 : Nat} (h1 : RL strC w (.slice a1 newDsk0.safe.length c1) newDsk0.safe) : RDisk w (.agg #[.slice a1 newDsk0.safe.length c1, .slice none 0 0]) newDsk0 := ⟨_, _, rfl, h1, RL.nil _ _, by decide, by decide⟩
theorem jr_New (K : JK) {S : List Nat} {w0 w : World} {L : List Ent} {R : List Rd} (X : St S w0 w L R) :
    Calls Tryz.prog 19 #[] w fun e w' => ∃ g M Rj, e = .returned (.pointer (some ⟨g, 0, none⟩)) /\ JF g newJ M Rj /\ St S w0 w' (M ++ L) (Rj ++ R) := by
 have hNw := fun w => K.dnew w
 have hEn := fun w => K.enc (superM 1 0) (.agg #[.int .i64 1, .int .i64 1, .int .i64 0, .slice none 0 0, .slice none 0 0]) w ⟨_, _, rfl, RL.nil _ _, RL.nil _ _, by decide, by decide⟩
 have hPu := fun v w (h : RDisk w v newDsk0) => K.put newDsk0 0 (markS (superM 1 0)) v w h
 have hFl := fun v w (h : RDisk w v (putD newDsk0 0 (markS (superM 1 0)))) => K.flush (putD newDsk0 0 (markS (superM 1 0))) v w h
 have hD : flushD (putD newDsk0 0 (markS (superM 1 0))) = newDsk := rfl
 have hI := inv_new
 have hg0 : goodD newDsk0 = true := by
  refine (goodD_iff _).2 ⟨by simp [newDsk0], by decide, ?_, rfl⟩
  rw [List.all_eq_true]
  intro s hs
  rw [List.eq_of_mem_replicate hs]
  unfold ok32
  rw [fit_size]; rfl
 have hm := dec_mark (super_good (q := 1) (a := 0) (by decide) (by decide))
 have hp : putE newDsk0 0 (markS (superM 1 0)) = 0 := putE_one hg0 (by decide) hm.2.2 (by decide)
 have hg1 := put_good hp
 rw [hD] at hFl
 have hD0 : newDsk0.safe = List.replicate 37 (fit ⟨#[]⟩) := rfl
 rw [<- hD0] at hNw
 generalize markE (superM 1 0) = mE at *
 generalize markS (superM 1 0) = mS at *
 generalize putE newDsk0 0 mS = pE at *
 generalize putD newDsk0 0 mS = D1 at *
 generalize flushE D1 = fE at *
 have hJ : newJ = { zeroJ newDsk 0 0 with now := txn0 1 } := rfl
 clear hD hm hp hD0 hg0
 replace hNw := hid hNw; replace hEn := hid hEn; replace hPu := hid hPu; replace hFl := hid hFl; replace hI := hid hI
 go_enter Tryz.func19, Tryz.ntmps19
 go_wp2_with (first
  | (refine Zbx ?_; clear X; intro g w X)
  | (refine ZyL ?_) | (refine ZyS ?_; clear X; intro w X) | (refine ZyA ?_; clear X; intro g w X)
  | (go_at_call 60; ((with_reducible refine (hNw.out _).mono ?_); rintro e w1 ⟨vs, rfl, ho1, hb1⟩; obtain ⟨a1, c1, rfl⟩ := ho1.form; replace X := (X.addOwn hb1 (ho1.mono (by omega))).addNil; clear hb1 ho1))
  | (go_at_call 61; ((with_reducible refine (hEn.out _).mono ?_); rintro e w1 ⟨rfl, hb1⟩; replace X := X.call hb1; clear hb1))
  | (go_at_call 62; ((with_reducible refine (hPu.out _ _ (rdisk0 (X.read (List.Mem.tail _ (List.Mem.head _))))).mono ?_); rintro e w1 ⟨v1, rfl, hr1, hn1, hb1⟩; obtain ⟨as2, cs2, aw2, cw2, rfl, X2⟩ := X.addNewD (as_ := a1) (cs := c1) (aw := none) (cw := 0) hb1 hn1 (fun r hr => by simp only [dskR, List.mem_cons, List.not_mem_nil, or_false] at hr; rcases hr with rfl | rfl; exact .tail _ (.head _); exact .head _); replace X := X2; clear X2 hb1 hn1 hr1))
  | (go_at_call 63; ((with_reducible refine (hFl.out _ _ (X.dsk (goodD_len hg1).1 (goodD_len hg1).2)).mono ?_); rintro e w1 ⟨v1, rfl, hr1, hn1, hb1⟩; obtain ⟨as3, cs3, aw3, cw3, rfl, X2⟩ := X.addNewD hb1 hn1 (fun r hr => mem2J hr); replace X := X2; clear X2 hb1 hn1 hr1)))
 go_ret
 refine ⟨_, _, _, rfl, ⟨zeroV ⟨as3, cs3⟩ ⟨aw3, cw3⟩, [], [], [], [], ⟨.nil _ _ _, .nil _ _ _, rfl, rfl, (fun x hx => by cases hx), (fun x hx => by cases hx), hI.out, ⟨Nat.zero_le _, Nat.zero_le _⟩⟩, rfl, rfl⟩, ?_⟩
 exact X.jZero rfl rfl rfl rfl (List.Sublist.refl _) (fun r hr => .tail _ (.tail _ (.tail _ (.tail _ hr))))
end Go.Proofs.YtjhmfljlclajnacGreatDoor
namespace Wb
open Go Go.RowKit
def alA : Aj := ⟨1, 0, 0, 2, ⟨#[]⟩⟩
def alB : Aj := ⟨2, 0, 3, 0, ⟨#[120]⟩⟩
def alC : Aj := ⟨9, 0, 3, 0, ⟨#[]⟩⟩
def alD : Aj := ⟨6, 0, 0, 0, ⟨#[]⟩⟩
def alJ1 : Jn := (doJ newJ alA).1
def alJ2 : Jn := (doJ alJ1 alB).1
def alJ3 : Jn := (doJ alJ2 alC).1
theorem al_A : (doJ newJ alA).2.code = 0 := by decide +kernel
theorem al_B : (doJ alJ1 alB).2.code = 0 := by decide +kernel
theorem al_Cn : (doJ alJ2 alC).2.n = 1 := by decide +kernel
theorem al_Ct : (doJ alJ2 alC).2.text = fit ⟨#[120]⟩ := by rfl
theorem al_D : (doJ alJ3 alD).2.code = 9 := by decide +kernel
variable {S : List Nat} {w0 w : World} {L : List Ent} {R R2 : List Rd}
theorem St.lessR (X : St S w0 w L (R2 ++ R)) : St S w0 w L R := ⟨X.mv, X.nd, X.blk, X.own, fun r hr => X.rd r (List.mem_append_right _ hr)⟩
theorem perm1J {α : Type} (a : α) (M L : List α) : (a :: (M ++ L)).Perm (M ++ (a :: L)) := List.perm_append_comm_assoc [a] M L
theorem perm2J {α : Type} (a b : α) (M L : List α) : (a :: b :: (M ++ L)).Perm (M ++ (a :: b :: L)) := List.perm_append_comm_assoc [a, b] M L
theorem perm3J {α : Type} (a b c : α) (M L : List α) : (a :: b :: c :: (M ++ L)).Perm (M ++ (a :: b :: c :: L)) := List.perm_append_comm_assoc [a, b, c] M L
theorem rep_code {r : Rep} {c : Int} (h : r.code = c) : r = ⟨c, r.n, r.text⟩ := by cases r; cases h; rfl
theorem rep_nt {r : Rep} {n : Int} {t : ByteArray} (h : r.n = n) (h2 : r.text = t) : r = ⟨r.code, n, t⟩ := by cases r; cases h; cases h2; rfl
theorem acts_ge {j : Jn} (a : Aj) (h : 0 <= j.acts) : 0 <= (doJ j a).1.acts := by
 rw [acts_do]; split <;> omega
theorem new_acts : 0 <= newJ.acts := by decide
end Wb
namespace Go.Proofs.YtjhmfljlclajnacGreatDoor
open Go.RowKit Wb
theorem jr_DoA (K : JK) {S : List Nat} {w0 w : World} {L : List Ent} {R : List Rd} {gj : Nat} {j : Jn} {M : List Ent} {Rj : List Rd} (F : JF gj j M Rj) (X : St S w0 w (M ++ L) (Rj ++ R)) (hF : flR 0 ∈ R) (a : Aj) (hs : a.text.size <= 9223372036854775807) (hn : a.n <= 9223372036854775807) (ha : 0 <= j.acts) (vs : List Value) (hv : ajC a = vs) {c n : Int} {t : ByteArray} (hr : (doJ j a).2 = ⟨c, n, t⟩) :
    Calls Tryz.prog 11 #[.pointer (some ⟨gj, 0, none⟩), .agg vs.toArray] w fun e w' => ∃ M' Rj', e = .returned (.agg #[.int .i64 c, .int .i64 n, .string t]) /\ JF gj (doJ j a).1 M' Rj' /\ St S w0 w' (M' ++ L) (Rj' ++ R) := by
 subst hv
 refine (jr_Do K F X hF a hs hn ha).mono ?_
 rintro e w' ⟨M', Rj', rfl, hJ, hX⟩
 exact ⟨M', Rj', by rw [hr]; rfl, hJ, hX⟩
theorem jr_alive (K : JK) {S : List Nat} {w0 w : World} {L : List Ent} {R : List Rd} (X : St S w0 w L R) (hF : flR 0 ∈ R) :
    Calls Tryz.prog 64 #[] w fun e w' => e = .returned (.bool true) /\ St S w0 w' L R := by
 have hFi := fun w => K.fit ⟨#[120]⟩ w (by decide)
 have r1 := rep_code al_A
 have r2 := rep_code al_B
 have r3 := rep_nt al_Cn al_Ct
 have r4 := rep_code al_D
 have a1 : 0 <= alJ1.acts := acts_ge alA new_acts
 have a2 : 0 <= alJ2.acts := acts_ge alB a1
 have a3 : 0 <= alJ3.acts := acts_ge alC a2
 generalize (doJ newJ alA).2.n = n1, (doJ newJ alA).2.text = t1 at r1
 generalize (doJ alJ1 alB).2.n = n2, (doJ alJ1 alB).2.text = t2 at r2
 generalize (doJ alJ2 alC).2.code = c3 at r3
 generalize (doJ alJ3 alD).2.n = n4, (doJ alJ3 alD).2.text = t4 at r4
 generalize fit ⟨#[120]⟩ = tx at hFi r3
 have tx1 : (tx.toList == tx.toList) = true := by simp
 replace hFi := hid hFi; replace r1 := hid r1; replace r2 := hid r2; replace r3 := hid r3; replace r4 := hid r4
 replace a1 := hid a1; replace a2 := hid a2; replace a3 := hid a3
 have hN := hid (jr_New K X)
 go_enter Tryz.func64, Tryz.ntmps64
 go_upto_region 4 with (first
  | (refine ZyL ?_) | (refine ZyS ?_; clear X; intro w X) | (refine ZyA ?_; clear X; intro g w X)
  | (go_at_call 19; ((with_reducible refine (hN.out).mono ?_); rintro e w1 ⟨g, M1, R1, rfl, F1, X2⟩; replace X := X2; clear X2)))
 have hC := hid (jr_DoA K F1 X hF alA (by decide) (by decide) new_acts [.int .i64 1, .int .i64 0, .int .i64 0, .int .i64 2, .string ⟨#[]⟩] rfl r1.out)
 clear hN
 go_upto_region 5 with (first
  | (refine ZyL ?_) | (refine ZyS ?_; clear X; intro w X) | (refine ZyA ?_; clear X; intro g w X)
  | (go_at_call 11; ((with_reducible refine (hC.out).mono ?_); rintro e w1 ⟨M2, R2, rfl, F2, X2⟩; replace X := X2; clear X2)))
 have hC2 := hid (jr_DoA K F2 (X.perm (perm1J _ _ _)) hF alB (by decide) (by decide) a1.out [.int .i64 2, .int .i64 0, .int .i64 3, .int .i64 0, .string ⟨#[120]⟩] rfl r2.out)
 clear hC
 go_upto_region 6 with (first
  | (refine ZyL ?_) | (refine ZyS ?_; clear X; intro w X) | (refine ZyA ?_; clear X; intro g w X)
  | (go_at_call 11; ((with_reducible refine (hC2.out).mono ?_); rintro e w1 ⟨M3, R3, rfl, F3, X2⟩; replace X := X2.perm (perm1J _ _ _).symm; clear X2)))
 have hC3 := hid (jr_DoA K F3 (X.perm (perm2J _ _ _ _)) hF alC (by decide) (by decide) a2.out [.int .i64 9, .int .i64 0, .int .i64 3, .int .i64 0, .string ⟨#[]⟩] rfl r3.out)
 clear hC2
 go_upto_region 7 with (first
  | (refine ZyL ?_) | (refine ZyS ?_; clear X; intro w X) | (refine ZyA ?_; clear X; intro g w X)
  | (go_at_call 11; ((with_reducible refine (hC3.out).mono ?_); rintro e w1 ⟨M4, R4, rfl, F4, X2⟩; replace X := X2.perm (perm2J _ _ _ _).symm; clear X2)))
 have hC4 := hid (jr_DoA K F4 (X.perm (perm3J _ _ _ _ _)) hF alD (by decide) (by decide) a3.out [.int .i64 6, .int .i64 0, .int .i64 0, .int .i64 0, .string ⟨#[]⟩] rfl r4.out)
 clear hC3
 go_upto_region 8 with (first
  | (refine ZyL ?_) | (refine ZyS ?_; clear X; intro w X) | (refine ZyA ?_; clear X; intro g w X)
  | (go_at_call 11; ((with_reducible refine (hC4.out).mono ?_); rintro e w1 ⟨M5, R5, rfl, F5, X2⟩; replace X := X2.perm (perm3J _ _ _ _ _).symm; clear X2)))
 (refine q_startS 4 [] [11] [1, 5, 10, 16, 21] [0, 1, 2, 3, 4, 5, 6, 7, 8, 9, 10, 11, 12, 13, 14, 15, 16, 17, 18, 19, 20, 21, 22, 23, 24] X ?_; clear X; intro hQ X hL; simp only [zF, zG] at hL; simp only [zF, zG])
 refine Zf ?_
 refine Zl ?_
 refine Zg ?_
 refine Zm ?_
 refine Zf ?_
 refine Zl ?_
 refine Zg ?_
 refine Zg ?_
 refine Zm ?_
 refine Zf ?_
 refine Zl ?_
 (refine q_callS 65 Tryz.func65 (hFi.out _) ?_; rintro e w1 ⟨rfl, hb1⟩; replace X := X.call hb1; clear hb1; refine Zce ?_; clear hL; intro hL)
 refine Zg ?_
 refine Zg ?_
 refine Zm ?_
 refine Zf ?_
 refine Zl ?_
 refine Zg ?_
 refine Zg ?_
 refine Zm ?_
 refine Zf ?_
 refine Zl ?_
 refine Zg ?_
 refine Zg ?_
 refine Za ?_
 refine q_nil ?_
 go_wp2
 go_ret
 exact ⟨rfl, (X.sub (.cons _ (.cons _ (.cons _ (.cons _ (List.sublist_append_right _ _)))))).lessR⟩
end Go.Proofs.YtjhmfljlclajnacGreatDoor
namespace Wb
open Go Go.RowKit
variable {P : Program} {S : List Nat} {w0 w : World} {L : List Ent} {R : List Rd}
variable {ops : Array Oper} {Q : Exit -> Act -> World -> Prop} {L0 : List Ent} {R0 : List Rd} {brk eff lds r : List Nat} {a : Act} {i : Nat} {o : Oper}
def jAt (l : List Aj) (k : Nat) : Jn := (l.take k).foldl (fun j a => (doJ j a).1) newJ
theorem jAt_succ {l : List Aj} {k : Nat} (hk : k < l.length) : jAt l (k + 1) = (doJ (jAt l k) l[k]).1 := by
 unfold jAt
 rw [List.take_add_one, List.getElem?_eq_getElem hk, List.foldl_append]
 rfl
theorem ajC_len (a : Aj) : (ajC a).length = 5 := rfl
theorem RL.atAj {w : World} {al : Option Addr} {n cap : Nat} {l : List Aj} (h : RL ajC w (.slice al n cap) l) {k : Nat} (hk : k < l.length) :
    ∃ b off, al = some ⟨b, off, none⟩ /\ w.cell? ⟨b, off + k * 5, none⟩ = some (.int .i64 l[k].kind) /\ w.cell? ⟨b, off + k * 5 + 1, none⟩ = some (.int .i64 l[k].h) /\ w.cell? ⟨b, off + k * 5 + 2, none⟩ = some (.int .i64 l[k].b) /\ w.cell? ⟨b, off + k * 5 + 3, none⟩ = some (.int .i64 l[k].n) /\ w.cell? ⟨b, off + k * 5 + 4, none⟩ = some (.string l[k].text) := by
 obtain ⟨b, off, ha, hc⟩ := RL.at (c := 5) ajC_len h hk (by decide)
 exact ⟨b, off, ha, hc 0 _ rfl, hc 1 _ rfl, hc 2 _ rfl, hc 3 _ rfl, hc 4 _ rfl⟩
end Wb
namespace Go.Proofs.YtjhmfljlclajnacGreatDoor
open Go.RowKit Wb
theorem permG {α : Type} (a : α) (M D L : List α) : (a :: (M ++ (D ++ L))).Perm (M ++ (D ++ (a :: L))) := (perm1J a M (D ++ L)).trans ((perm1J a D L).append_left M)
theorem acts_at (l : List Aj) : ∀ k, 0 <= (jAt l k).acts := by
 intro k
 unfold jAt
 generalize hj : newJ = j
 have h0 : 0 <= j.acts := by rw [<- hj]; exact new_acts
 clear hj
 induction l.take k generalizing j with
 | nil => exact h0
 | cons a r ih => exact ih _ (acts_ge a h0)
end Go.Proofs.YtjhmfljlclajnacGreatDoor
namespace Wb
open Go Go.RowKit
section
variable {S : List Nat} {w0 w w' : World} {L L' : List Ent} {R R' : List Rd}
theorem St.root (X : St S w0 w L R) : St (L.map Ent.g) w w L R :=
 ⟨Mv.refl _ _, X.nd, X.blk, fun e he => .inl (List.mem_map_of_mem he), X.rd⟩
theorem St.frame {b : Nat} (Y : St (L.map Ent.g) w w' L' R') (hb : b < w.heap.size) (hn : ∀ e ∈ L, e.g ≠ b) : w'.heap[b]? = w.heap[b]? :=
 Y.mv.block b hb fun h => by
  obtain ⟨e, he, h2⟩ := List.mem_map.1 h
  exact hn e he h2
theorem St.apartB {b : Nat} (Y : St (L.map Ent.g) w w' L' R') (hb : b < w.heap.size) (hn : ∀ e ∈ L, e.g ≠ b) : ∀ e ∈ L', e.g ≠ b := fun e he h => by
 rcases Y.own e he with h2 | h2
 ·obtain ⟨e2, he2, h3⟩ := List.mem_map.1 h2
  exact hn e2 he2 (h3.trans h)
 ·omega
end
end Wb
namespace Go.Proofs.YtjhmfljlclajnacGreatDoor
open Go.RowKit Wb
def ApartB (S : List Nat) (w0 : World) (B : List Nat) (L : List Ent) : Prop := ∀ b ∈ B, (b ∈ S \/ w0.heap.size <= b) /\ ∀ e ∈ L, e.g ≠ b
end Go.Proofs.YtjhmfljlclajnacGreatDoor
namespace Wb
open Go Go.RowKit
section
variable {P : Program} {S : List Nat} {w0 w : World} {L : List Ent} {R : List Rd}
variable {ops : Array Oper} {Q : Exit -> Act -> World -> Prop} {L0 : List Ent} {R0 : List Rd} {brk eff lds r : List Nat} {a : Act} {i : Nat} {o : Oper}
theorem q_callB (f : FuncId) {x : Operand} {pre : Array Value} (xs : List Operand) (ts : Array TypeId) (hi : oAt ops i = some o) (ho : o.op = .call { callee := .value x, args := xs.toArray, argTypes := ts }) (hx : EvR a x (.func (.func f) pre #[])) (args : Array Value) (ha : (xs.map a.eval).toArray = args)
    (hb : ∃ fn c, P.funcs[f]? = some fn /\ (fn.name == "runtime.NumGoroutine") = false /\ fn.body = some c) (he : eff.contains i = true) (hw : Region.wanted o (yielded ops a.tmps) = true) {F : Ending -> World -> Prop}
    (h : Calls P f (pre ++ args) w F) (hK : ∀ e w', F e w' -> ∃ v, e = .returned v /\ (brk.contains i = false -> Kept L0 R0 w -> Kept L0 R0 w') /\ SQ P ops Q L0 R0 brk eff lds r (a.put o.dst v) w') : SQ P ops Q L0 R0 brk eff lds (i :: r) a w :=
 q_eff hi he hw fun K hk => by
  subst ha
  obtain ⟨fn, c, h1, h2, h3⟩ := hb
  have hr : (execOp a.eval o).run P w = .ok (.enter f (pre ++ (xs.map a.eval).toArray)) w := by
   unfold execOp
   simp [ho, resolve, invoke, Deferred.ofValue, hx.eval, run_enter h1 h2 h3]
  unfold Oper.wp
  rw [hr, Oper.upon_enter]
  exact h.mono fun e w' hF => by obtain ⟨v, rfl, hs, hq⟩ := hK e w' hF; exact hk _ _ hs hq
end
end Wb
namespace Go.Proofs.YtjhmfljlclajnacGreatDoor
open Go.RowKit Wb
def LookB (S : List Nat) (w0 : World) (R : List Rd) {σ : Type} (l : List Aj) (N : FuncId) (pre : Array Value) (T : σ -> List Ent -> List Rd -> Prop) (Ph : Nat -> σ -> Prop) (W : σ -> World -> Prop) (B : σ -> List Nat) : Prop :=
 ∀ (k : Nat) (hk : k < l.length), k < 150 -> ∀ s, Ph k s -> ∀ (L : List Ent) (gj : Nat) (w : World) (M : List Ent) (Rj : List Rd) (Ms : List Ent) (Rs : List Rd), JF gj (jAt l (k + 1)) M Rj -> T s Ms Rs -> W s w -> ApartB S w0 (B s) (M ++ (Ms ++ L)) -> St S w0 w (M ++ (Ms ++ L)) (Rj ++ (Rs ++ R)) ->
  Calls Tryz.prog N (pre ++ #[.pointer (some ⟨gj, 0, none⟩), .agg (ajC l[k]).toArray, .agg #[.int .i64 (doJ (jAt l k) l[k]).2.code, .int .i64 (doJ (jAt l k) l[k]).2.n, .string (doJ (jAt l k) l[k]).2.text]]) w fun e w' =>
   ∃ s' M' Rj' Ms' Rs', e = .returned (.bool true) /\ Ph (k + 1) s' /\ JF gj (jAt l (k + 1)) M' Rj' /\ T s' Ms' Rs' /\ W s' w' /\ ApartB S w0 (B s') (M' ++ (Ms' ++ L)) /\ St S w0 w' (M' ++ (Ms' ++ L)) (Rj' ++ (Rs' ++ R))
theorem jr_playB (K : JK) {S : List Nat} {w0 w : World} {L : List Ent} {R : List Rd} {σ : Type} (l : List Aj) (hok : ∀ a ∈ l, a.text.size <= 9223372036854775807 /\ a.n <= 9223372036854775807) (N : FuncId) (pre : Array Value) (T : σ -> List Ent -> List Rd -> Prop) (Ph : Nat -> σ -> Prop) (W : σ -> World -> Prop) (B : σ -> List Nat) (hWs : ∀ s w w', W s w -> (∀ b ∈ B s, w'.heap[b]? = w.heap[b]?) -> W s w') (hWl : ∀ s w, W s w -> ∀ b ∈ B s, b < w.heap.size) (s0 : σ) (Ms : List Ent) (Rs : List Rd) (hT : T s0 Ms Rs) (hP : Ph 0 s0) (hW : W s0 w) (hA : ApartB S w0 (B s0) (Ms ++ L)) (X : St S w0 w (Ms ++ L) (Rs ++ R)) (hF : flR 0 ∈ R) {al : Option Addr} {cl : Nat} (hl : Rd.of ajC (.slice al l.length cl) l ∈ R)
    (hb : ∃ fn c, Tryz.prog.funcs[N]? = some fn /\ (fn.name == "runtime.NumGoroutine") = false /\ fn.body = some c) (hLk : LookB S w0 R l N pre T Ph W B) :
    Calls Tryz.prog 21 #[.slice al l.length cl, .func (.func N) pre #[]] w fun e w' => ∃ gj M Rj s Ms Rs, e = .returned (.tuple #[.pointer (some ⟨gj, 0, none⟩), .bool true]) /\ JF gj (jAt l (min l.length 150)) M Rj /\ T s Ms Rs /\ Ph (min l.length 150) s /\ W s w' /\ ApartB S w0 (B s) (M ++ (Ms ++ L)) /\ St S w0 w' (M ++ (Ms ++ L)) (Rj ++ (Rs ++ R)) := by
 have X0 := X
 have hdis : ∀ b ∈ B s0, b < w.heap.size /\ ∀ e ∈ Ms ++ L, e.g ≠ b := fun b hb => ⟨hWl _ _ hW b hb, (hA b hb).2⟩
 replace X := X.root
 replace hW := hid hW; replace hA := hid hA; replace hdis := hid hdis; replace hWs := hid hWs; replace hWl := hid hWl
 have hAl := hid (jr_alive K X (List.mem_append_right _ hF))
 replace hLk := hid hLk
 replace hok := hid hok
 go_enter Tryz.func21, Tryz.ntmps21
 go_upto_region 3 with (first
  | (refine ZyL ?_) | (refine ZyS ?_; clear X; intro w X) | (refine ZyA ?_; clear X; intro g w X)
  | (go_at_call 64; ((with_reducible refine (hAl.out).mono ?_); rintro e w1 ⟨rfl, X2⟩; replace X := X2; clear X2)))
 clear hAl
 have hN := hid (jr_New K X)
 go_upto_region 4 with (first
  | (refine ZyL ?_) | (refine ZyS ?_; clear X; intro w X) | (refine ZyA ?_; clear X; intro g w X)
  | (go_at_call 19; ((with_reducible refine (hN.out).mono ?_); rintro e w1 ⟨gj, M, Rj, rfl, F, X2⟩; replace X := X2; clear X2)))
 clear hN
 go_wp2
 have hW1 := hWs.out _ _ _ hW.out (fun b hb => X.frame (hdis.out b hb).1 (hdis.out b hb).2)
 have hA1 : ApartB S w0 (B s0) (M ++ (Ms ++ L)) := fun b hb => ⟨(hA.out b hb).1, X.apartB (hdis.out b hb).1 (hdis.out b hb).2⟩
 replace X := X0.back X
 clear hW hA hdis X0
 go_loopw [7] (fun i wr => ∃ (k : Nat) (s : _) (M : List Ent) (Rj : List Rd) (Ms : List Ent) (Rs : List Rd), k <= l.length /\ k <= 150 /\ i = .int .i64 k /\ JF gj (jAt l k) M Rj /\ T s Ms Rs /\ Ph k s /\ W s wr /\ ApartB S w0 (B s) (M ++ (Ms ++ L)) /\ St S w0 wr (M ++ (Ms ++ L)) (Rj ++ (Rs ++ R))) (fun i _ => l.length - (intOf i).toNat)
 case atStart => exact ⟨0, s0, M, Rj, Ms, Rs, Nat.zero_le _, Nat.zero_le _, rfl, F, hT, hP, hW1, hA1, X⟩
 case round =>
  clear X F hP hT hW1 hA1 Ms Rs s0
  obtain ⟨k, s, M, Rj, Ms, Rs, hk1, hk2, rfl, F, hT, hP, hW, hA, X⟩ := hrel
  by_cases hlt : k < l.length
  ·by_cases h150 : k < 150
   ·obtain ⟨b4, off4, hb4, d0, d1, d2, d3, d4⟩ := RL.atAj (X.read (List.mem_append_right _ (List.mem_append_right _ hl))) hlt
    subst hb4
    have hoka := hok.out _ (List.getElem_mem hlt)
    have X0 := X
    have hdis := hid (fun b (hb : b ∈ B s) => And.intro (hWl.out _ _ hW b hb) (hA b hb).2)
    replace X := X.root
    replace hW := hid hW; replace hA := hid hA
    have hD := hid (jr_DoA K F X (List.mem_append_right _ hF) l[k] hoka.1 hoka.2 (acts_at l k) [.int .i64 l[k].kind, .int .i64 l[k].h, .int .i64 l[k].b, .int .i64 l[k].n, .string l[k].text] rfl (c := (doJ (jAt l k) l[k]).2.code) (n := (doJ (jAt l k) l[k]).2.n) (t := (doJ (jAt l k) l[k]).2.text) rfl)
    have hD2 := fun L gj w M Rj F hW hA X => hLk.out k hlt h150 s hP L gj w M Rj Ms Rs F hT hW hA X
    clear hoka
    rw [<- jAt_succ hlt] at hD
    replace hD2 := hid hD2
    have c1 : (k : Int) < (l.length : Int) := by omega
    have c2 : (k : Int) < 150 := by omega
    go_upto_region 8 with (first
     | (refine ZyL ?_) | (refine ZyS ?_; clear X; intro w X) | (refine ZyA ?_; clear X; intro g w X)
     | (go_at_call 11; ((with_reducible refine (hD.out).mono ?_); rintro e w1 ⟨M2, R2, rfl, F2, X2⟩; replace X := X2; clear X2)))
    clear hD
    have hW1 := hid (hWs.out _ _ _ hW.out (fun b hb => X.frame (hdis.out b hb).1 (hdis.out b hb).2))
    have hA1 := hid (fun b (hb : b ∈ B s) => And.intro (hA.out b hb).1 (X.apartB (hdis.out b hb).1 (hdis.out b hb).2))
    replace X := X0.back X
    clear X0 hW hA hdis
    (refine q_startS 1 [7] [7] [5, 6] [0, 1, 2, 3, 4, 5, 6, 7, 8] X ?_; clear X; intro hQ X hL; simp only [zF, zG] at hL; simp only [zF, zG])
    refine Zm ?_
    refine Zm ?_
    refine Zm ?_
    refine Zm ?_
    refine Zg ?_
    refine q_elemN ajC_len hlt rfl rfl (List.mem_append_right _ (List.mem_append_right _ hl)) Zev rfl rfl X hL hQ ?_
    (simp only [Act.put, zA, zB, zC, zD, zE, zF, zG, Nat.reduceAdd])
    refine Zl ?_
    refine q_callB N _ _ rfl rfl Zev _ rfl hb rfl rfl (hD2.out _ _ _ _ _ F2 (hWs.out _ _ _ hW1.out (fun _ _ => rfl)) (fun b hb => ⟨(hA1.out b hb).1, fun e he => (hA1.out b hb).2 e ((permG _ _ _ _).mem_iff.2 he)⟩) (X.perm (permG _ _ _ _))) ?_
    rintro e w1 ⟨s2, M3, R3, Ms2, Rs2, rfl, hP2, F3, hT2, hW2, hA2, X3⟩
    refine ⟨_, rfl, fun h => absurd h (by decide), ?_⟩
    clear hL X
    have X := X3
    clear X3
    (simp only [Act.put, zA, zB, zC, zD, zE, zF, zG, Nat.reduceAdd])
    refine Zg ?_
    refine q_nil ?_
    go_wp2
    go_roundw
    case rel => exact ⟨k + 1, s2, M3, R3, Ms2, Rs2, by omega, by omega, by go_num, F3, hT2, hP2, hW2, fun b hb => ⟨(hA2 b hb).1, fun e he => (hA2 b hb).2 e (((List.Sublist.refl _).append ((List.Sublist.refl _).append (List.sublist_cons_self _ _))).subset he)⟩, X.sub ((List.Sublist.refl _).append ((List.Sublist.refl _).append (List.sublist_cons_self _ _)))⟩
    case measure => simp [intOf]; omega
   ·have c1 : (k : Int) < (l.length : Int) := by omega
    have c2 : ¬ (k : Int) < 150 := by omega
    have hm : min l.length 150 = k := by omega
    replace hm := hid hm
    go_wp2_with (first
     | (refine ZyL ?_) | (refine ZyS ?_; clear X; intro w X) | (refine ZyA ?_; clear X; intro g w X))
    rw [hm.out]
    first
     | exact bodyPost_ret (results_tmp2 rfl _ _ _) rfl ⟨_, _, _, _, _, _, rfl, F, hT, hP, hW, hA, X⟩
     | exact bodyPost_ret (results_tmp2 rfl _ _ _) rfl ⟨_, rfl, _, _, F, _, _, _, hT, hP, hW, hA, X⟩
  ·have hm : min l.length 150 = k := by omega
   replace hm := hid hm
   go_wp2_with (first
    | (refine ZyL ?_) | (refine ZyS ?_; clear X; intro w X) | (refine ZyA ?_; clear X; intro g w X))
   rw [hm.out]
   first
    | exact bodyPost_ret (results_tmp2 rfl _ _ _) rfl ⟨_, _, _, _, _, _, rfl, F, hT, hP, hW, hA, X⟩
    | exact bodyPost_ret (results_tmp2 rfl _ _ _) rfl ⟨_, rfl, _, _, F, _, _, _, hT, hP, hW, hA, X⟩
end Go.Proofs.YtjhmfljlclajnacGreatDoor
namespace Wb
open Go Go.RowKit
theorem isBlk_nat {n : Nat} (h : n < 12) : isBlk (n : Int) = true := by unfold isBlk; simp; omega
end Wb
namespace Wb
open Go Go.RowKit Go.MapKept
structure BkS where
 k : Bk
 gN : Nat
 gS : Nat
 A : Int -> Nat
 al : List Nat
def bkM (s : BkS) : Int -> Option Value := fun n => (s.k.states n).map fun _ => .map (some (s.A n))
structure BkW (s : BkS) (w : World) : Prop where
 now : IMap w s.gN (txtV s.k.now)
 st : IMap w s.gS (bkM s)
 each : ∀ n σ, s.k.states n = some σ -> IMap w (s.A n) (txtV σ) /\ s.A n ∈ s.al
 lt : ∀ b ∈ s.al, ∃ o, w.heap[b]? = some o
 apart : s.gN ≠ s.gS /\ s.gN ∉ s.al /\ s.gS ∉ s.al
def bkB (s : BkS) : List Nat := s.gN :: s.gS :: s.al
theorem BkW.same {s : BkS} {w w' : World} (h : BkW s w) (hb : ∀ b ∈ bkB s, w'.heap[b]? = w.heap[b]?) : BkW s w' :=
 ⟨h.now.same (hb _ (.head _)), h.st.same (hb _ (.tail _ (.head _))), fun n σ hn => ⟨(h.each n σ hn).1.same (hb _ (.tail _ (.tail _ (h.each n σ hn).2))), (h.each n σ hn).2⟩, fun b hm => by rw [hb b (.tail _ (.tail _ hm))]; exact h.lt b hm, h.apart⟩
theorem BkW.all {s : BkS} {w : World} (h : BkW s w) : ∀ b ∈ bkB s, b < w.heap.size := fun b hb => by
 rcases List.mem_cons.1 hb with rfl | hb
 ·exact h.now.lt
 rcases List.mem_cons.1 hb with rfl | hb
 ·exact h.st.lt
 obtain ⟨o, ho⟩ := h.lt b hb
 exact (Array.getElem?_eq_some_iff.1 ho).1
theorem BkW.congr {s t : BkS} {w : World} (h : BkW s w) (h1 : t.k.now = s.k.now) (h2 : t.k.states = s.k.states) (h3 : t.gN = s.gN) (h4 : t.gS = s.gS) (h5 : t.A = s.A) (h6 : t.al = s.al) : BkW t w := by
 refine ⟨by rw [h1, h3]; exact h.now, ?_, by rw [h2, h5, h6]; exact h.each, by rw [h6]; exact h.lt, by rw [h3, h4, h6]; exact h.apart⟩
 have : bkM t = bkM s := by unfold bkM; rw [h2, h5]
 rw [this, h4]; exact h.st
theorem bkM_some {s : BkS} {n : Int} {σ : Int -> Option ByteArray} (h : s.k.states n = some σ) : bkM s n = some (.map (some (s.A n))) := by unfold bkM; rw [h]; rfl
theorem txtV_setO (f : Int -> Option ByteArray) (b : Int) (v : Option ByteArray) : (fun x => if x = b then v.map Value.string else txtV f x) = txtV (setO f b v) := by
 funext x; unfold txtV setO; by_cases h : x = b
 ·rw [if_pos h, if_pos h]
 ·rw [if_neg h, if_neg h]
theorem perm4J {α : Type} (a b c d : α) (M L : List α) : (a :: b :: c :: d :: (M ++ L)).Perm (M ++ (a :: b :: c :: d :: L)) := List.perm_append_comm_assoc [a, b, c, d] M L
theorem BkW.setN {s t : BkS} {w w' : World} (h : BkW s w) (ht : Turned w w' s.gN) (im : IMap w' s.gN (txtV t.k.now)) (h2 : t.k.states = s.k.states) (h3 : t.gN = s.gN) (h4 : t.gS = s.gS) (h5 : t.A = s.A) (h6 : t.al = s.al) : BkW t w' := by
 have hM : bkM t = bkM s := by unfold bkM; rw [h2, h5]
 have hne : ∀ b ∈ s.al, b ≠ s.gN := fun b hb e => h.apart.2.1 (by rw [<- e]; exact hb)
 refine ⟨by rw [h3]; exact im, by rw [hM, h4]; exact ht.imap h.st (fun e => h.apart.1 e.symm), ?_, ?_, by rw [h3, h4, h6]; exact h.apart⟩
 ·rw [h2, h5, h6]
  exact fun n σ hn => ⟨ht.imap (h.each n σ hn).1 (hne _ (h.each n σ hn).2), (h.each n σ hn).2⟩
 ·rw [h6]
  exact fun b hb => by rw [ht.block b (hne b hb)]; exact h.lt b hb
theorem ne_lt_le {a b c : Nat} (h1 : a < c) (h2 : c <= b) : a ≠ b := by omega
theorem apart_cons {L : List Ent} {gN gS gX : Nat} {al : List Nat} (h : ∀ b ∈ gN :: gS :: al, ∀ e ∈ L, e.g ≠ b) (hX : ∀ e ∈ L, e.g ≠ gX) : ∀ b ∈ gN :: gS :: gX :: al, ∀ e ∈ L, e.g ≠ b := fun b hb => by
 rcases List.mem_cons.1 hb with rfl | hb
 ·exact h _ (.head _)
 rcases List.mem_cons.1 hb with rfl | hb
 ·exact h _ (.tail _ (.head _))
 rcases List.mem_cons.1 hb with rfl | hb
 ·exact hX
 ·exact h _ (.tail _ (.tail _ hb))
theorem BkW.setS {s t : BkS} {w w' : World} {n : Int} {g : Nat} (h : BkW s w) (ht : Turned w w' s.gS) (im : IMap w' s.gS (fun x => if x = n then some (.map (some g)) else bkM s x)) (img : IMap w g (txtV s.k.now)) (hg : g ∉ bkB s) (h1 : t.k.now = s.k.now) (h2 : t.k.states = setO s.k.states n (some s.k.now)) (h3 : t.gN = s.gN) (h4 : t.gS = s.gS) (h5 : t.A = fun x => if x = n then g else s.A x) (h6 : t.al = g :: s.al) : BkW t w' := by
 have hne : ∀ b ∈ s.al, b ≠ s.gS := fun b hb e => h.apart.2.2 (by rw [<- e]; exact hb)
 have hgS : g ≠ s.gS := fun e => hg (by rw [e]; exact .tail _ (.head _))
 have hgN : g ≠ s.gN := fun e => hg (by rw [e]; exact .head _)
 have hga : g ∉ s.al := fun e => hg (.tail _ (.tail _ e))
 have hM : bkM t = fun x => if x = n then some (.map (some g)) else bkM s x := by
  funext x
  unfold bkM
  rw [h2, h5]
  unfold setO
  by_cases hx : x = n
  ·simp only [if_pos hx]; rfl
  ·simp only [if_neg hx]
 refine ⟨by rw [h1, h3]; exact ht.imap h.now h.apart.1, by rw [hM, h4]; exact im, fun m σ hm => ?_, ?_, ?_⟩
 ·rw [h2] at hm
  rw [h5, h6]
  by_cases hx : m = n
  ·rw [hx, setO_self] at hm
   cases hm
   refine ⟨?_, ?_⟩
   ·simp only [if_pos hx]; exact ht.imap img hgS
   ·simp only [if_pos hx]; exact .head _
  ·rw [setO_ne hx] at hm
   simp only [if_neg hx]
   exact ⟨ht.imap (h.each m σ hm).1 (hne _ (h.each m σ hm).2), .tail _ (h.each m σ hm).2⟩
 ·rw [h6]
  intro b hb
  rcases List.mem_cons.1 hb with rfl | hb
  ·obtain ⟨es, c, h9, _⟩ := img
   exact ⟨_, (ht.block _ hgS).trans h9⟩
  ·rw [ht.block b (hne b hb)]; exact h.lt b hb
 ·rw [h3, h4, h6]
  refine ⟨h.apart.1, fun hm => ?_, fun hm => ?_⟩
  ·rcases List.mem_cons.1 hm with e | hm
   ·exact hgN e.symm
   ·exact h.apart.2.1 hm
  ·rcases List.mem_cons.1 hm with e | hm
   ·exact hgS e.symm
   ·exact h.apart.2.2 hm
theorem BkW.newN {s t : BkS} {w : World} (h : BkW s w) (im : IMap w t.gN (txtV t.k.now)) (hg : t.gN ∉ bkB s) (h2 : t.k.states = s.k.states) (h4 : t.gS = s.gS) (h5 : t.A = s.A) (h6 : t.al = s.al) : BkW t w := by
 have hM : bkM t = bkM s := by unfold bkM; rw [h2, h5]
 refine ⟨im, by rw [hM, h4]; exact h.st, by rw [h2, h5, h6]; exact h.each, by rw [h6]; exact h.lt, fun e => hg (by rw [e, h4]; exact .tail _ (.head _)), fun e => hg (.tail _ (.tail _ (by rw [<- h6]; exact e))), by rw [h4, h6]; exact h.apart.2.2⟩
theorem St.gs3k {S : List Nat} {w0 w : World} {a b c : Nat} {ca cb cc : List Value} {ta tb tc : TypeId} {L : List Ent} {R : List Rd} (_ : St S w0 w (⟨a, ca, ta⟩ :: ⟨b, cb, tb⟩ :: ⟨c, cc, tc⟩ :: L) R) : ∃ x1 x2 x3, x1 = a /\ x2 = b /\ x3 = c := ⟨_, _, _, rfl, rfl, rfl⟩
section
variable {P : Program} {ops : Array Oper} {Q : Exit -> Act -> World -> Prop} {L0 : List Ent} {R0 : List Rd} {brk eff lds r : List Nat} {a : Act} {i : Nat} {o : Oper} {w w2 : World}
theorem q_del {ts : Array TypeId} {m k : Operand} {b : Nat} {n : Int} (hi : oAt ops i = some o) (ho : o.op = .call { callee := .builtin .delete, args := #[m, k], argTypes := ts }) (hm : EvR a m (.map (some b))) (hk : EvR a k (.int .i64 n)) (he : eff.contains i = true) (hb : brk.contains i = true) (hw : Region.wanted o (yielded ops a.tmps) = true)
    (hrun : (Builtin.delete_ ts o.type #[.map (some b), .int .i64 n]).run P w = .ok (.tuple #[]) w2) (h : SQ P ops Q L0 R0 brk eff lds r (a.put o.dst (.tuple #[])) w2) : SQ P ops Q L0 R0 brk eff lds (i :: r) a w :=
 q_eff hi he hw fun K hK => by
  unfold Oper.wp execOp
  simp [ho, resolve, invoke, builtin, hm.eval, hk.eval, hrun, Result.andThen]
  exact hK _ _ (fun hf => by rw [hb] at hf; cases hf) h
end
end Wb
namespace Go.Proofs.YtjhmfljlclajnacGreatDoor
open Go.RowKit Wb
instance : OneT Tryz.prog 69 := ⟨⟨_, Tryz.underlying69, rfl⟩, by kernel_rfl⟩
instance : ZeroT Tryz.prog 69 [.map none] := ⟨by kernel_rfl⟩
instance : OneT Tryz.prog 70 := ⟨⟨_, Tryz.underlying70, rfl⟩, by kernel_rfl⟩
instance : FieldT Tryz.prog 72 0 0 := ⟨fun _ _ _ => by kernel_rfl⟩
instance : FieldT Tryz.prog 72 1 1 := ⟨fun _ _ _ => by kernel_rfl⟩
instance : FieldT Tryz.prog 72 2 2 := ⟨fun _ _ _ => by kernel_rfl⟩
instance : FieldT Tryz.prog 72 3 3 := ⟨fun _ _ _ => by kernel_rfl⟩
instance : FieldT Tryz.prog 72 4 4 := ⟨fun _ _ _ => by kernel_rfl⟩
instance : FieldT Tryz.prog 31 0 0 := ⟨fun _ _ _ => by kernel_rfl⟩
instance : FieldT Tryz.prog 31 1 1 := ⟨fun _ _ _ => by kernel_rfl⟩
instance : FieldT Tryz.prog 31 2 2 := ⟨fun _ _ _ => by kernel_rfl⟩
def bkC (s : BkS) : List Value := [.map (some s.gN), .map (some s.gS), .int .i64 s.k.sealed, .int .i64 s.k.told, .bool s.k.down]
def bkE (gK : Nat) (s : BkS) : Ent := ⟨gK, bkC s, 72⟩
theorem bk_see (K : JK) {S : List Nat} {w0 w : World} {L : List Ent} {R : List Rd} {gj gK : Nat} {j : Jn} {M : List Ent} {Rj : List Rd} (s : BkS) (a : Aj) (r : Rep) (F : JF gj j M Rj) (hW : BkW s w) (hA : ApartB S w0 (bkB s) (M ++ (bkE gK s :: L))) (X : St S w0 w (M ++ (bkE gK s :: L)) (Rj ++ R)) (hok : seeOk s.k j a r) (htx : a.text.size <= 9223372036854775807) :
    Calls Tryz.prog 22 #[.pointer (some ⟨gK, 0, none⟩), .pointer (some ⟨gj, 0, none⟩), .agg (ajC a).toArray, .agg #[.int .i64 r.code, .int .i64 r.n, .string r.text]] w fun e w' => ∃ s', e = .returned (.bool true) /\ s'.k = seeB s.k j a r /\ BkW s' w' /\ ApartB S w0 (bkB s') (M ++ (bkE gK s' :: L)) /\ St S w0 w' (M ++ (bkE gK s' :: L)) (Rj ++ R) := by
 obtain ⟨PP, hPP⟩ : ∃ PP : World -> Prop, ∀ w', PP w' ↔ (∃ s', s'.k = seeB s.k j a r /\ BkW s' w' /\ ApartB S w0 (bkB s') (M ++ (bkE gK s' :: L)) /\ St S w0 w' (M ++ (bkE gK s' :: L)) (Rj ++ R)) := ⟨_, fun _ => Iff.rfl⟩
 refine Calls.mono (R := fun e w' => e = .returned (.bool true) /\ PP w') ?_ (fun e w' ⟨he, hp⟩ => by
  obtain ⟨s', h⟩ := (hPP w').1 hp
  exact ⟨s', he, h⟩)
 have fin : ∀ (w' : World) (x y z : Ent) (s' : BkS), s'.k = seeB s.k j a r -> BkW s' w' -> ((∀ b ∈ bkB s', (b ∈ S \/ w0.heap.size <= b)) /\ (∀ b ∈ bkB s', ∀ e ∈ (x :: y :: z :: bkE gK s' :: (M ++ L)), e.g ≠ b) /\ St S w0 w' (x :: y :: z :: bkE gK s' :: (M ++ L)) (Rj ++ R)) -> PP w' := by
  rintro w' x y z s' hk hw ⟨h1, h2, h3⟩
  refine (hPP w').2 ⟨s', hk, hw, fun b hb => ⟨h1 b hb, fun e he => h2 b hb e (.tail _ (.tail _ (.tail _ ((perm1J _ _ _).mem_iff.2 he))))⟩, ?_⟩
  exact (h3.sub (.cons _ (.cons _ (.cons _ (List.Sublist.refl _))))).perm (perm1J _ _ _)
 clear hPP
 obtain ⟨UP, hUP⟩ : ∃ UP, seeB s.k j a r = UP := ⟨_, rfl⟩
 rw [hUP] at fin
 have u0 : r.code ≠ 0 -> UP = { s.k with down := j.down } := fun h => by rw [<- hUP]; exact see_bad h
 have u2 : r.code = 0 -> a.kind = 2 -> UP = { s.k with down := j.down, now := setO s.k.now a.b (some (fit a.text)) } := fun h h2 => by
  rw [<- hUP]; unfold seeB; rw [if_neg (fun hh => hh h), if_pos h2]
 have u4 : r.code = 0 -> a.kind = 4 -> UP = { s.k with down := j.down, now := setO s.k.now a.b none } := fun h h2 => by
  rw [<- hUP]; unfold seeB; rw [if_neg (fun hh => hh h), if_neg (by omega), if_pos h2]
 have u6 : r.code = 0 -> a.kind = 6 -> UP = { s.k with down := j.down, sealed := r.n, states := setO s.k.states r.n (some s.k.now) } := fun h h2 => by
  rw [<- hUP]; unfold seeB; rw [if_neg (fun hh => hh h), if_neg (by omega), if_neg (by omega), if_pos h2]
 have u8 : r.code = 0 -> a.kind = 8 -> (s.k.down = false \/ j.down = true) -> UP = { s.k with down := j.down, told := if 0 < r.n then r.n else s.k.told } := fun h h2 h3 => by
  rw [<- hUP]; exact (see_step h2 h h3).1
 have u9 : r.code = 0 -> a.kind = 8 -> ¬ (s.k.down = false \/ j.down = true) -> UP = { s.k with down := j.down, now := (s.k.states j.last).getD fun _ => none, told := j.last, sealed := j.last } := fun h h2 h3 => by
  rw [<- hUP]; unfold seeB stateB; rw [if_neg (fun hh => hh h), if_neg (by omega), if_neg (by omega), if_neg (by omega), if_pos h2, if_neg h3]
 have ue : a.kind ≠ 2 -> a.kind ≠ 4 -> a.kind ≠ 6 -> a.kind ≠ 8 -> UP = { s.k with down := j.down } := fun h2 h4 h6 h8 => by rw [<- hUP]; exact see_else h2 h4 h6 h8
 have hFi := fun w => K.fit a.text w htx
 clear hUP htx
 unfold seeOk at hok
 show Calls Tryz.prog _ #[_, _, .agg #[.int .i64 a.kind, .int .i64 a.h, .int .i64 a.b, .int .i64 a.n, .string a.text], _] w _
 generalize a.kind = kd, a.h = hh, a.b = bb, a.n = nn, a.text = tx, r.code = rc, r.n = rn, r.text = rt at *
 replace X : St S w0 w (⟨gK, [.map (some s.gN), .map (some s.gS), .int .i64 s.k.sealed, .int .i64 s.k.told, .bool s.k.down], 72⟩ :: (M ++ L)) (Rj ++ R) := X.perm (perm1J _ _ _).symm
 have hall := hW.all
 have hA2 : ∀ b ∈ bkB s, ∀ e ∈ (⟨gK, [.map (some s.gN), .map (some s.gS), .int .i64 s.k.sealed, .int .i64 s.k.told, .bool s.k.down], 72⟩ :: (M ++ L)), e.g ≠ b := fun b hb e he => (hA b hb).2 e ((perm1J _ _ _).mem_iff.1 he)
 have hS0 : ∀ b ∈ bkB s, b ∈ S \/ w0.heap.size <= b := fun b hb => (hA b hb).1
 obtain ⟨SS, hSS⟩ : ∃ SS, (⟨gK, [.map (some s.gN), .map (some s.gS), .int .i64 s.k.sealed, .int .i64 s.k.told, .bool s.k.down], 72⟩ :: (M ++ L)).map Ent.g = SS := ⟨_, rfl⟩
 have hWf := fun (w' : World) (L' : List Ent) (R' : List Rd) (Y : St SS w w' L' R') => hW.same (w' := w') (fun b hb => (by rw [<- hSS] at Y; exact Y.frame (hall b hb) (hA2 b hb)))
 have hAf := fun (w' : World) (L' : List Ent) (R' : List Rd) (Y : St SS w w' L' R') (b : Nat) (hb : b ∈ bkB s) => (show ∀ e ∈ L', e.g ≠ b by rw [<- hSS] at Y; exact Y.apartB (hall b hb) (hA2 b hb))
 have hBk := fun (w' : World) (L' : List Ent) (R' : List Rd) (Y : St SS w w' L' R') => (show St S w0 w' L' R' by rw [<- hSS] at Y; exact X.back Y)
 have hwz := X.mv.size
 replace X := X.root
 obtain ⟨wR, rfl⟩ : ∃ x, x = w := ⟨_, rfl⟩
 rw [hSS] at X
 obtain ⟨k, gN, gS, A, al⟩ := s
 obtain ⟨kn, ks, kl, kt, kw⟩ := k
 dsimp only at X u0 u2 u4 u6 u8 u9 ue hok
 have hR := hid (fun (w' : World) (x y z : Ent) (Y : St SS wR w' (x :: y :: z :: (M ++ L)) (Rj ++ R)) => jr_RingS F Y (perm3J _ _ _ _ _) (fun r h => List.mem_append_left _ h))
 clear hSS hall hA2 hA hW
 replace fin := hid fin; replace hFi := hid hFi; replace hok := hid hok; replace u0 := hid u0; replace u2 := hid u2; replace u4 := hid u4; replace u6 := hid u6; replace u8 := hid u8; replace u9 := hid u9; replace ue := hid ue; replace hS0 := hid hS0; replace hWf := hid hWf; replace hAf := hid hAf; replace hBk := hid hBk; replace hwz := hid hwz
 replace F := hid F
 generalize j.down = jd, j.last = jl at *
 go_enter Tryz.func22, Tryz.ntmps22
 go_upto_if 34 with (first
  | (refine Zbx ?_; clear X; intro g w X)
  | (refine ZyL ?_) | (refine ZyS ?_; clear X; intro w X) | (refine ZyA ?_; clear X; intro g w X)
  | (go_at_call 10; ((with_reducible refine (hR.out _ _ _ _ X).mono ?_); rintro e w1 ⟨rfl, X2⟩; replace X := X2; clear X2)))
 obtain ⟨g1, g2, g3, rfl, rfl, rfl⟩ := X.gs3k
 clear hR
 by_cases hrc : rc = 0
 rotate_left
 ·have hne : (rc != 0) = true := by simpa using hrc
  have hk := hid (u0.out hrc)
  replace hrc := hid hrc
  go_wp2_with (first
   | go_skip
   | (refine ZyL ?_) | (refine ZyS ?_; clear X; intro w X) | (refine ZyA ?_; clear X; intro g w X))
  go_ret
  exact ⟨rfl, fin.out _ _ _ _ ⟨⟨kn, ks, kl, kt, jd⟩, gN, gS, A, al⟩ hk.out.symm ((hWf.out _ _ _ X).congr rfl rfl rfl rfl rfl rfl) ⟨hS0.out, hAf.out _ _ _ X, hBk.out _ _ _ X⟩⟩
 subst hrc
 by_cases h2 : kd = 2
 ·have hk := hid (u2.out rfl h2)
  subst h2
  go_upto_region 8 with (first
   | go_skip
   | (refine ZyL ?_) | (refine ZyS ?_; clear X; intro w X) | (refine ZyA ?_; clear X; intro g w X))
  (refine q_startS 4 [9] [8, 9] [3, 5, 7] [0, 1, 2, 3, 4, 5, 6, 7, 8, 9] X ?_; clear X; intro hQ X hL; simp only [zF, zG] at hL; simp only [zF, zG])
  refine Zm ?_
  refine Zn ?_
  refine Zf ?_
  refine Zl ?_
  refine Zf ?_
  refine Zl ?_
  refine Zf ?_
  refine Zl ?_
  (refine q_callS 65 Tryz.func65 (hFi.out _) ?_; rintro e w1 ⟨rfl, hb1⟩; replace X := X.call hb1; clear hb1; refine Zce ?_; clear hL; intro hL)
  have hW1 := hWf.out _ _ _ X
  have hA1 := hAf.out _ _ _ X
  have XB := hBk.out _ _ _ X
  have imN : IMap _ gN (txtV kn) := hW1.now
  obtain ⟨w5, hr5, im5, ht5⟩ := imN.update (P := Tryz.prog) Tryz.underlying69 Tryz.underlying3 bb (.string (fit tx))
  refine q_upd rfl rfl Zev Zev Zev rfl rfl rfl hr5 ?_
  (simp only [Act.put, zA, zB, zC, zD, zE, zF, zG, Nat.reduceAdd])
  refine q_nil ?_
  have X9 := hid (XB.turned imN ht5 (hS0.out _ (.head _)) (hA1 _ (.head _)))
  have hW2 := hid (hW1.setN (t := ⟨⟨setO kn bb (some (fit tx)), ks, kl, kt, jd⟩, gN, gS, A, al⟩) ht5 (im5.congr fun k => congrFun (txtV_setO kn bb (some (fit tx))) k) rfl rfl rfl rfl rfl)
  clear im5 ht5 imN XB hW1 X hr5
  replace hA1 := hid hA1
  go_wp2
  go_ret
  exact ⟨rfl, fin.out _ _ _ _ _ hk.out.symm hW2.out ⟨hS0.out, hA1.out, X9.out⟩⟩
 have f2 : (kd == 2) = false := beq_eq_false_iff_ne.2 h2
 by_cases h4 : kd = 4
 ·have hk := hid (u4.out rfl h4)
  subst h4
  replace h2 := hid h2
  go_upto_region 10 with (first
   | go_skip
   | (refine ZyL ?_) | (refine ZyS ?_; clear X; intro w X) | (refine ZyA ?_; clear X; intro g w X))
  (refine q_startS 4 [6] [6] [3, 5] [0, 1, 2, 3, 4, 5, 6] X ?_; clear X; intro hQ X hL; simp only [zF, zG] at hL; simp only [zF, zG])
  refine Zm ?_
  refine Zn ?_
  refine Zf ?_
  refine Zl ?_
  refine Zf ?_
  refine Zl ?_
  have hW1 := hWf.out _ _ _ X
  have hA1 := hAf.out _ _ _ X
  have XB := hBk.out _ _ _ X
  have imN : IMap _ gN (txtV kn) := hW1.now
  obtain ⟨w5, hr5, im5, ht5⟩ := imN.delete (P := Tryz.prog) (ty := 0) Tryz.underlying69 Tryz.underlying3 bb
  refine q_del rfl rfl Zev Zev rfl rfl rfl hr5 ?_
  (simp only [Act.put, zA, zB, zC, zD, zE, zF, zG, Nat.reduceAdd])
  refine q_nil ?_
  have X9 := hid (XB.turned imN ht5 (hS0.out _ (.head _)) (hA1 _ (.head _)))
  have hW2 := hid (hW1.setN (t := ⟨⟨setO kn bb none, ks, kl, kt, jd⟩, gN, gS, A, al⟩) ht5 (im5.congr fun k => congrFun (txtV_setO kn bb none) k) rfl rfl rfl rfl rfl)
  clear im5 ht5 imN XB hW1 X hr5
  replace hA1 := hid hA1
  go_wp2
  go_ret
  exact ⟨rfl, fin.out _ _ _ _ _ hk.out.symm hW2.out ⟨hS0.out, hA1.out, X9.out⟩⟩
 have f4 : (kd == 4) = false := beq_eq_false_iff_ne.2 h4
 by_cases h6 : kd = 6
 ·have hk := hid (u6.out rfl h6)
  subst h6
  replace h2 := hid h2; replace h4 := hid h4
  go_upto_region 13 with (first
   | go_skip
   | (refine ZyL ?_) | (refine ZyS ?_; clear X; intro w X) | (refine ZyA ?_; clear X; intro g w X))
  (refine q_startS 4 [11] [10, 11] [3, 5, 9] [0, 1, 2, 3, 4, 5, 6, 7, 8, 9, 10, 11] X ?_; clear X; intro hQ X hL; simp only [zF, zG] at hL; simp only [zF, zG])
  refine Zm ?_
  refine Zn ?_
  refine Zf ?_
  refine Zl ?_
  refine Zf ?_
  refine Zl ?_
  refine Zm ?_
  refine Zn ?_
  refine Zf ?_
  refine Zl ?_
  have hW0 := hWf.out _ _ _ X
  have hz0 := X.mv.size
  have hle0 := fun (e : Ent) he => (X.blk e he).lt
  (refine q_callS 66 Tryz.func66 (tw_copied (show IMap _ gN (txtV kn) from hW0.now)) ?_; rintro e w1 ⟨gX, rfl, imX, hgX, hb1⟩; replace X := X.call hb1; clear hb1; refine Zce ?_; clear hL; intro hL)
  have hW1 := hWf.out _ _ _ X
  have hA1 := hAf.out _ _ _ X
  have XB := hBk.out _ _ _ X
  have imS : IMap _ gS (bkM ⟨⟨kn, ks, kl, kt, kw⟩, gN, gS, A, al⟩) := hW1.st
  have hXn : gX ∉ bkB ⟨⟨kn, ks, kl, kt, kw⟩, gN, gS, A, al⟩ := fun h => by have := hW0.all _ h; omega
  obtain ⟨w5, hr5, im5, ht5⟩ := imS.update (P := Tryz.prog) Tryz.underlying70 Tryz.underlying3 rn (.map (some gX))
  refine q_upd rfl rfl Zev Zev Zev rfl rfl rfl hr5 ?_
  (simp only [Act.put, zA, zB, zC, zD, zE, zF, zG, Nat.reduceAdd])
  refine q_nil ?_
  have X9 := hid (XB.turned imS ht5 (hS0.out _ (.tail _ (.head _))) (hA1 _ (.tail _ (.head _))))
  have hW2 := hid (hW1.setS (t := ⟨⟨kn, setO ks rn (some kn), rn, kt, jd⟩, gN, gS, fun x => if x = rn then gX else A x, gX :: al⟩) ht5 im5 imX hXn rfl rfl rfl rfl rfl rfl)
  have hS2 : ∀ b ∈ bkB ⟨⟨kn, setO ks rn (some kn), rn, kt, jd⟩, gN, gS, fun x => if x = rn then gX else A x, gX :: al⟩, b ∈ S \/ w0.heap.size <= b := fun b hb => by
   rcases List.mem_cons.1 hb with rfl | hb
   ·exact hS0.out _ (.head _)
   rcases List.mem_cons.1 hb with rfl | hb
   ·exact hS0.out _ (.tail _ (.head _))
   rcases List.mem_cons.1 hb with rfl | hb
   ·right
    have := hwz.out
    omega
   ·exact hS0.out _ (.tail _ (.tail _ hb))
  have hX9 := fun (e : Ent) he => ne_lt_le (hle0 e he) hgX
  have hA2 := apart_cons hA1 hX9
  clear im5 ht5 imS XB hW1 hW0 X hr5 imX hle0 hz0 hXn hgX hX9
  replace hA2 := hid hA2; replace hS2 := hid hS2
  clear hA1
  go_wp2
  go_ret
  exact ⟨rfl, fin.out _ _ _ _ _ hk.out.symm hW2.out ⟨hS2.out, hA2.out, X9.out⟩⟩
 have f6 : (kd == 6) = false := beq_eq_false_iff_ne.2 h6
 by_cases h8 : kd = 8
 rotate_left
 ·have f8 : (kd == 8) = false := beq_eq_false_iff_ne.2 h8
  have hk := hid (ue.out h2 h4 h6 h8)
  replace h2 := hid h2; replace h4 := hid h4; replace h6 := hid h6; replace h8 := hid h8
  go_wp2_with (first
   | go_skip
   | (refine ZyL ?_) | (refine ZyS ?_; clear X; intro w X) | (refine ZyA ?_; clear X; intro g w X))
  go_ret
  exact ⟨rfl, fin.out _ _ _ _ ⟨⟨kn, ks, kl, kt, jd⟩, gN, gS, A, al⟩ hk.out.symm ((hWf.out _ _ _ X).congr rfl rfl rfl rfl rfl rfl) ⟨hS0.out, hAf.out _ _ _ X, hBk.out _ _ _ X⟩⟩
 subst h8
 have hk8 := hid (fun h => u8.out rfl rfl h)
 have hk9 := hid (fun h => u9.out rfl rfl h)
 replace hok := hid (hok.out rfl rfl)
 clear u0 u2 u4 u6 u8 u9 ue
 replace h2 := hid h2; replace h4 := hid h4; replace h6 := hid h6
 obtain ⟨tl, htl⟩ : ∃ tl, (if 0 < rn then rn else kt) = tl := ⟨_, rfl⟩
 rw [htl] at hk8 hok
 replace htl := hid htl
 go_upto_if 78 with (first
  | go_skip
  | (refine ZyL ?_) | (refine ZyS ?_; clear X; intro w X) | (refine ZyA ?_; clear X; intro g w X))
 go_cut [] (fun wx => St SS wR wx (⟨g1, [.int .i64 j.ring.head, .int .i64 j.ring.used], 26⟩ :: ⟨g2, [.int .i64 0, .int .i64 rn, .string rt], 31⟩ :: ⟨g3, [.int .i64 8, .int .i64 hh, .int .i64 bb, .int .i64 nn, .string tx], 23⟩ :: ⟨gK, [.map (some gN), .map (some gS), .int .i64 kl, .int .i64 tl, .bool jd], 72⟩ :: (M ++ L)) (Rj ++ R))
 case first =>
  by_cases hp : 0 < rn
  ·have e := htl.out
   rw [if_pos hp] at e
   subst e
   go_wp2_with (first
    | go_skip
    | (refine ZyL ?_) | (refine ZyS ?_; clear X; intro w X) | (refine ZyA ?_; clear X; intro g w X))
   go_meet
   exact X
  ·have e := htl.out
   rw [if_neg hp] at e
   subst e
   go_wp2_with (first
    | go_skip
    | (refine ZyL ?_) | (refine ZyS ?_; clear X; intro w X) | (refine ZyA ?_; clear X; intro g w X))
   go_meet
   exact X
 case rest =>
  clear X htl
  have X := hcut
  clear hcut
  by_cases he : kw = false \/ jd = true
  ·have hk := hid (hk8.out he)
   clear hk8 hk9 hok
   have hkj : (kw = false) \/ (kw = true /\ jd = true) := by
    cases kw with
    | false => exact .inl rfl
    | true => rcases he with he | he
              · cases he
              · exact .inr ⟨rfl, he⟩
   clear he
   rcases hkj with rfl | ⟨rfl, rfl⟩
   all_goals
    go_wp2_with (first
     | go_skip
     | (refine ZyL ?_) | (refine ZyS ?_; clear X; intro w X) | (refine ZyA ?_; clear X; intro g w X))
    go_ret
    exact ⟨rfl, fin.out _ _ _ _ ⟨⟨kn, ks, kl, tl, _⟩, gN, gS, A, al⟩ hk.out.symm ((hWf.out _ _ _ X).congr rfl rfl rfl rfl rfl rfl) ⟨hS0.out, hAf.out _ _ _ X, hBk.out _ _ _ X⟩⟩
  obtain ⟨rfl, rfl⟩ : kw = true /\ jd = false := by
   cases kw with
   | false => exact absurd (.inl rfl) he
   | true => cases jd with
    | false => exact ⟨rfl, rfl⟩
    | true => exact absurd (.inr rfl) he
  have hk := hk9.out he
  obtain ⟨σ, hs, c1, c2, c3⟩ := hok.out rfl rfl
  rw [hs] at hk
  simp only [Option.getD_some] at hk
  replace hk := hid hk
  clear hk8 hk9 hok he
  have hlk := ((hWf.out _ _ _ X).st.lookup (P := Tryz.prog) Tryz.underlying70 Tryz.underlying3 (e := 69) (z := .map none) (by kernel_rfl) jl).2
  rw [bkM_some (s := ⟨⟨kn, ks, kl, kt, true⟩, gN, gS, A, al⟩) hs] at hlk
  simp only [Option.getD_some, Option.isSome_some] at hlk
  have d1 : ¬ (jl < tl) := by omega
  have d2 : ¬ (kl < jl) := by omega
  replace c3 := hid c3; replace hs := hid hs
  clear c1 c2
  go_wp2_with (first
   | go_skip
   | (refine ZyL ?_) | (refine ZyS ?_; clear X; intro w X) | (refine ZyA ?_; clear X; intro g w X))
  clear hlk
  go_loopw [15, 16, 17] (fun i _ _ wr => ∃ n : Nat, n <= 12 /\ i = .int .i64 (n : Int) /\ St SS wR wr (⟨g1, [.int .i64 j.ring.head, .int .i64 j.ring.used], 26⟩ :: ⟨g2, [.int .i64 0, .int .i64 rn, .string rt], 31⟩ :: ⟨g3, [.int .i64 8, .int .i64 hh, .int .i64 bb, .int .i64 nn, .string tx], 23⟩ :: ⟨gK, [.map (some gN), .map (some gS), .int .i64 kl, .int .i64 tl, .bool false], 72⟩ :: (M ++ L)) (Rj ++ R)) (fun i _ _ _ => 12 - (intOf i).toNat)
  case atStart => exact ⟨0, Nat.zero_le _, rfl, X⟩
  case round =>
   clear X
   obtain ⟨n, hn, rfl, X⟩ := hrel
   have imA : IMap _ (A jl) (txtV σ) := ((hWf.out _ _ _ X).each _ _ hs.out).1
   by_cases hlt : n < 12
   ·have hb := isBlk_nat hlt
    have hwn : IntKind.i64.wrap ((n : Int) + 1) = (n : Int) + 1 := IntWalk.i64_in _ (by omega)
    have hl3 : (n : Int) < 12 := by omega
    have hlk := (imA.lookup (P := Tryz.prog) Tryz.underlying69 Tryz.underlying3 (e := 9) (z := .string ⟨#[]⟩) (by kernel_rfl) n).2
    unfold txtV at hlk
    clear imA
    cases hf : σ n with
    | none =>
     rw [hf] at hlk
     simp only [Option.map_none, Option.getD_none, Option.isSome_none] at hlk
     replace hf := hid hf; replace hb := hid hb
     go_wp2_with (first
      | go_skip
      | (refine ZyL ?_) | (refine ZyS ?_; clear X; intro w X) | (refine ZyA ?_; clear X; intro g w X))
     go_roundw
     case rel => exact ⟨n + 1, by omega, by go_num, X⟩
     case measure => simp [intOf]; omega
    | some x =>
     rw [hf] at hlk
     simp only [Option.map_some, Option.getD_some, Option.isSome_some] at hlk
     have hHm := top_home K F.out X (perm4J _ _ _ _ _ _) (fun r h => List.mem_append_left _ h) hb
     rw [c3.out n hb x hf] at hHm
     have tx1 : (x.toList != x.toList) = false := by simp
     replace hHm := hid hHm
     replace hf := hid hf; replace hb := hid hb
     go_wp2_with (first
      | go_skip
      | (refine ZyL ?_) | (refine ZyS ?_; clear X; intro w X) | (refine ZyA ?_; clear X; intro g w X)
      | (go_at_call 26; ((with_reducible refine (hHm.out).mono ?_); rintro e w1 ⟨rfl, X2⟩; replace X := X2; clear X2)))
     go_roundw
     case rel => exact ⟨n + 1, by omega, by go_num, X⟩
     case measure => simp [intOf]; omega
   ·have hl3 : ¬ (n : Int) < 12 := by omega
    have hcp := hid (tw_copied imA)
    have hle0 := hid (fun (e : Ent) he => (X.blk e he).lt)
    have hXl := hid (hWf.out _ _ _ X).all
    have hz0 := hid X.mv.size
    clear imA
    go_wp2_with (first
     | go_skip
     | (refine ZyL ?_) | (refine ZyS ?_; clear X; intro w X) | (refine ZyA ?_; clear X; intro g w X)
     | (go_at_call 66; ((with_reducible refine (hcp.out).mono ?_); rintro e w1 ⟨gX, rfl, imX, hgX, hb1⟩; have hW1 := hid (hWf.out _ _ _ (X.call hb1)); have hA1 := hid (hAf.out _ _ _ (X.call hb1)); have XB := hBk.out _ _ _ (X.call hb1); clear X hb1; have X := XB.root; replace XB := hid XB; replace imX := hid imX; replace hgX := hid hgX)))
    go_ret
    have hXn : gX ∉ bkB ⟨⟨kn, ks, kl, kt, true⟩, gN, gS, A, al⟩ := fun h => by have := hXl.out _ h; have := hgX.out; omega
    have hW2 := hW1.out.same (fun b hb => X.frame (hW1.out.all b hb) (hA1.out b hb))
    have imX2 := imX.out.same (X.frame imX.out.lt (fun e he h => by have := hle0.out e he; have := hgX.out; omega))
    have hA2 := fun b (hb : b ∈ bkB ⟨⟨kn, ks, kl, kt, true⟩, gN, gS, A, al⟩) => X.apartB (hW1.out.all b hb) (hA1.out b hb)
    have hA3 := X.apartB imX.out.lt (fun e he h => by have := hle0.out e he; have := hgX.out; omega)
    refine ⟨rfl, fin.out _ _ _ _ ⟨⟨σ, ks, jl, jl, false⟩, gX, gS, A, al⟩ hk.out.symm (hW2.newN imX2 hXn rfl rfl rfl rfl) ⟨fun b hb => ?_, fun b hb => ?_, XB.out.back X⟩⟩
    ·rcases List.mem_cons.1 hb with rfl | hb
     ·right
      have := hwz.out
      have := hgX.out
      have := hz0.out
      omega
     ·exact hS0.out b (.tail _ hb)
    ·rcases List.mem_cons.1 hb with rfl | hb
     ·exact hA3
     ·exact hA2 b (.tail _ hb)
end Go.Proofs.YtjhmfljlclajnacGreatDoor
namespace Wb
open Go Go.RowKit Go.MapKept
theorem heap_size_alloc (w : World) (o : Obj) : (w.alloc o).heap.size = w.heap.size + 1 := by simp
end Wb
namespace Go.Proofs.YtjhmfljlclajnacGreatDoor
open Go.RowKit Wb
theorem tw_newBook {S : List Nat} {w0 w : World} {L : List Ent} {R : List Rd} (X : St S w0 w L R) :
    Calls Tryz.prog 20 #[] w fun e w' => ∃ gK s, e = .returned (.pointer (some ⟨gK, 0, none⟩)) /\ s.k = bk0 /\ BkW s w' /\ ApartB S w0 (bkB s) (bkE gK s :: L) /\ St S w0 w' (bkE gK s :: L) R := by
 obtain ⟨wR, rfl⟩ : ∃ x, x = w := ⟨_, rfl⟩
 have hmm := @run_makeMap Tryz.prog
 have e1 : (wR.alloc (.map #[] 0)).heap.size = wR.heap.size + 1 := heap_size_alloc _ _
 have e2 : ((wR.alloc (.map #[] 0)).alloc (.map #[] 0)).heap.size = wR.heap.size + 1 + 1 := by rw [heap_size_alloc, heap_size_alloc]
 have i1 := ((IMap.made wR).alloc (.map #[] 0)).alloc (.map #[] 0)
 have i2 := (IMap.made (wR.alloc (.map #[] 0))).alloc (.map #[] 0)
 have i3 := IMap.made ((wR.alloc (.map #[] 0)).alloc (.map #[] 0))
 rw [e1] at i2
 rw [e2] at i3
 have X3 := X.madeMap.madeMap.madeMap
 have hle : ∀ e ∈ L, e.g < wR.heap.size := fun e he => (X.blk e he).lt
 have hwz := X.mv.size
 obtain ⟨w4, hr4, im4, ht4⟩ := i2.update (P := Tryz.prog) Tryz.underlying70 Tryz.underlying3 0 (.map (some (wR.heap.size + 1 + 1)))
 have X4 := X3.turned i2 ht4 (.inr (by omega)) (fun e he h => by have := hle e he; omega)
 have j1 := ht4.imap i1 (by omega)
 have j3 := ht4.imap i3 (by omega)
 have hW4 : BkW ⟨bk0, wR.heap.size, wR.heap.size + 1, fun _ => wR.heap.size + 1 + 1, [wR.heap.size + 1 + 1]⟩ w4 := by
  refine ⟨j1.congr fun _ => rfl, im4.congr fun k => ?_, fun n σ hn => ⟨?_, .head _⟩, fun b hb => ?_, ?_⟩
  ·unfold bkM bk0 setO
   dsimp only
   by_cases hk : k = 0
   ·rw [if_pos hk, if_pos hk]; rfl
   ·rw [if_neg hk, if_neg hk]; rfl
  ·unfold bk0 setO at hn
   dsimp only at hn
   by_cases hk : n = 0
   ·rw [if_pos hk] at hn
    cases hn
    exact j3.congr fun _ => rfl
   ·rw [if_neg hk] at hn; cases hn
  ·obtain rfl := List.mem_singleton.1 hb
   obtain ⟨es, c, h9, _⟩ := j3
   exact ⟨_, h9⟩
  ·refine ⟨by dsimp only; omega, fun h => ?_, fun h => ?_⟩
   ·have := List.mem_singleton.1 h; dsimp only at this; omega
   ·have := List.mem_singleton.1 h; dsimp only at this; omega
 have hA4 : ∀ b ∈ bkB ⟨bk0, wR.heap.size, wR.heap.size + 1, fun _ => wR.heap.size + 1 + 1, [wR.heap.size + 1 + 1]⟩, wR.heap.size <= b := fun b hb => by
  rcases List.mem_cons.1 hb with rfl | hb
  ·exact Nat.le_refl _
  rcases List.mem_cons.1 hb with rfl | hb
  ·dsimp only; omega
  ·have := List.mem_singleton.1 hb; omega
 have XB := X4
 clear X X3 X4 i1 i2 i3 j1 j3 im4 ht4
 have X := XB.root
 replace XB := hid XB; replace hW4 := hid hW4; replace hA4 := hid hA4; replace hle := hid hle; replace hwz := hid hwz
 go_enter Tryz.func20, Tryz.ntmps20
 go_wp2_with (first
  | (refine Zbx ?_; clear X; intro g w X))
 go_ret
 have hap := fun b hb => X.apartB (hW4.out.all b hb) (fun e he h => by have := hle.out e he; have := hA4.out b hb; omega)
 have hW5 := hW4.out.same (fun b hb => X.frame (hW4.out.all b hb) (fun e he h => by have := hle.out e he; have := hA4.out b hb; omega))
 exact ⟨_, rfl, ⟨bk0, wR.heap.size, wR.heap.size + 1, fun _ => wR.heap.size + 1 + 1, [wR.heap.size + 1 + 1]⟩, rfl, hW5, fun b hb => ⟨.inr (by have := hA4.out b hb; have := hwz.out; omega), hap b hb⟩, XB.out.back X⟩
def whT (gK : Nat) (s : BkS) (Ms : List Ent) (Rs : List Rd) : Prop := Ms = [bkE gK s] /\ Rs = []
def whP (l : List Aj) (k : Nat) (s : BkS) : Prop := WJ s.k (jAt l k)
theorem wh_look (K : JK) {S : List Nat} {w0 : World} {R : List Rd} (l : List Aj) (hok : ∀ a ∈ l, a.text.size <= 9223372036854775807 /\ a.n <= 9223372036854775807) (gK : Nat) : LookB S w0 R l 22 #[.pointer (some ⟨gK, 0, none⟩)] (whT gK) (whP l) BkW bkB := by
 intro k hk h150 s hP L gj w M Rj Ms Rs F hT hW hA X
 obtain ⟨rfl, rfl⟩ := hT
 obtain ⟨h1, h2⟩ := whole_do l[k] hP
 rw [<- jAt_succ hk] at h1 h2
 refine (bk_see K s l[k] (doJ (jAt l k) l[k]).2 F hW hA X h2 (hok _ (List.getElem_mem hk)).1).mono fun e w' hh => ?_
 obtain ⟨s', he, hk', hW', hA', X'⟩ := hh
 exact ⟨s', M, Rj, [bkE gK s'], [], he, by unfold whP; rw [hk']; exact h1, F, ⟨rfl, rfl⟩, hW', hA', X'⟩
theorem wh_play (K : JK) {S : List Nat} {w0 w : World} {L : List Ent} {R : List Rd} (l : List Aj) (hok : ∀ a ∈ l, a.text.size <= 9223372036854775807 /\ a.n <= 9223372036854775807) {gK : Nat} {s : BkS} (hk : s.k = bk0) (hW : BkW s w) (hA : ApartB S w0 (bkB s) (bkE gK s :: L)) (X : St S w0 w (bkE gK s :: L) R) (hF : flR 0 ∈ R) {al : Option Addr} {cl : Nat} (hl : Rd.of ajC (.slice al l.length cl) l ∈ R) :
    Calls Tryz.prog 21 #[.slice al l.length cl, .func (.func 22) #[.pointer (some ⟨gK, 0, none⟩)] #[]] w fun e w' => ∃ gj M Rj s', e = .returned (.tuple #[.pointer (some ⟨gj, 0, none⟩), .bool true]) /\ JF gj (jAt l (min l.length 150)) M Rj /\ WJ s'.k (jAt l (min l.length 150)) /\ BkW s' w' /\ ApartB S w0 (bkB s') (M ++ (bkE gK s' :: L)) /\ St S w0 w' (M ++ (bkE gK s' :: L)) (Rj ++ R) := by
 refine (jr_playB (L := L) K l hok 22 #[.pointer (some ⟨gK, 0, none⟩)] (whT gK) (whP l) BkW bkB (fun s w w' h hb => h.same hb) (fun s w h => h.all) s [bkE gK s] [] ⟨rfl, rfl⟩ (by unfold whP; rw [hk]; exact whole_new) hW hA X hF hl ⟨_, _, Tryz.func22, by kernel_rfl, rfl⟩ (wh_look K l hok gK)).mono fun e w' hh => ?_
 obtain ⟨gj, M, Rj, s', Ms, Rs, he, F, hT, hP, hW', hA', X'⟩ := hh
 obtain ⟨rfl, rfl⟩ := hT
 exact ⟨gj, M, Rj, s', he, F, hP, hW', hA', X'⟩
theorem law_TopWhole (K : JK) (l : List Aj) (hok : ∀ a ∈ l, a.text.size <= 9223372036854775807 /\ a.n <= 9223372036854775807) {al : Option Addr} {cl : Nat} (w0 : World) (hl : RL ajC w0 (.slice al l.length cl) l) (hF : Sl w0 (flR 0).v 1 (flR 0).cs) :
    Calls Tryz.prog 6 #[.slice al l.length cl] w0 fun e w' => e = .returned (.bool true) /\ Below w0.heap.size w0 w' := by
 have X : St [] w0 w0 [] [Rd.of ajC (.slice al l.length cl) l, flR 0] := ((St.start [] w0).addR0 hF).addR0 hl
 have hN := hid (tw_newBook X)
 have hPl := hid (fun (w1 : World) (gK : Nat) (s : BkS) (h1 : s.k = bk0) (h2 : BkW s w1) (h3 : ApartB [] w0 (bkB s) [bkE gK s]) (X : St [] w0 w1 [bkE gK s] [Rd.of ajC (.slice al l.length cl) l, flR 0]) => wh_play K l hok h1 h2 h3 X (.tail _ (.head _)) (.head _))
 generalize jAt l (min l.length 150) = J at *
 go_enter Tryz.func6, Tryz.ntmps6
 go_upto_region 2 with (first
  | (go_at_call 20; ((with_reducible refine (hN.out).mono ?_); rintro e w1 ⟨gK, s, rfl, hk, hW, hA, X2⟩; replace X := X2; clear X2)))
 clear hN
 have hP := hid (hPl.out _ _ _ hk hW hA X)
 clear hPl hk hW hA
 go_wp2_with (first
  | (go_at_call 21; ((with_reducible refine (hP.out).mono ?_); rintro e w1 ⟨gj, M, Rj, s', rfl, F, hI, hW, hA, X2⟩; replace X := X2; clear X2)))
 go_ret
 exact ⟨rfl, X.below⟩
theorem disk_Put_good (d : Dsk) (n : Int) (t : ByteArray) (v : Value) (w : World) (hd : RDisk w v d) (hg : goodD d = true) (ha : isAt n = true) (h32 : t.size = 32) (h200 : ¬ 200 <= d.writes.length) :
    Calls Tryz.prog 62 #[v, .int .i64 n, .string t] w fun e w' => ∃ v', e = .returned (.tuple #[v', .int .i64 0]) /\ RDisk w' v' ⟨d.safe, d.writes ++ [⟨n, t⟩]⟩ /\ NewD w.heap.size w' v v' d ⟨d.safe, d.writes ++ [⟨n, t⟩]⟩ /\ Below w.heap.size w w' := by
 have hG := fun w (hh : RDisk w v d) => disk_Good d v w hh
 have hA := fun w => disk_at n w
 rw [hg] at hG
 rw [ha] at hA
 have e1 : ((t.size : Int) != 32) = false := by rw [h32]; rfl
 have hd2 := hd
 obtain ⟨vs, vw, rfl, hs, hw, n1, n2⟩ := hd
 obtain ⟨a, cap, rfl, ca1, ca2⟩ := hs.form
 obtain ⟨b, bcap, rfl, cb1, cb2⟩ := hw.form
 replace hd2 := hid hd2
 clear hg ha h32
 obtain ⟨safe, writes⟩ := d
 dsimp only at *
 have hC := fun v w (hh : RL wrC w v writes) => clone_Writes writes v w hh n2
 replace hG := hid hG
 replace hA := hid hA
 replace hC := hid hC
 replace hs := hid hs
 replace hw := hid hw
 go_enter Tryz.func62, Tryz.ntmps62
 go_wp2_with (first
  | (go_at_call 110; refine (hG.out _ (hd2.out.below (by exact Zlo))).mono ?_; rintro e w1 ⟨rfl, hb1⟩; obtain ⟨hbc, hbf⟩ := bcell hb1; have hbz := hb1.size; try simp only [World.size_alloc, World.size_setCell, World.size_drew] at hbz; have hz0 := Nat.lt_of_lt_of_le (n := w.heap.size) (by omega) hbz; have hz1 := Nat.lt_of_lt_of_le (n := w.heap.size + 1) (by omega) hbz)
  | (go_at_call 111; refine (hA.out _).mono ?_; rintro e w2 ⟨rfl, rfl⟩))
 have hnx : Below w.heap.size w w1 := by exact Zlo
 have k0 : Blk w1 w.heap.size #[.slice a safe.length cap, .slice b writes.length bcap] 46 := ((Blk.new w _ _).alloc _).step hb1
 have k1 : Blk w1 (w.heap.size + 1) #[.slice none 0 0, .slice none 0 0] 46 := (Blk.newAt (w := w.alloc _) (by simp)).step hb1
 have c0 := k0.cell 0
 have c1 := k0.cell 1
 simp only [Zga, Zgb, Zgc] at c0 c1
 have hw1 := hid (hw.out.below hnx)
 clear hb1 hbc hbf hw hd2
 go_region_held3 (fun w' => w'.cell? ⟨w.heap.size, 0, none⟩ = some (.slice a safe.length cap) /\ w'.cell? ⟨w.heap.size, 1, none⟩ = some (.slice b writes.length bcap)) (first | exact ⟨by with_reducible assumption, by with_reducible assumption⟩ | go_keep) (first
  | (refine step_call 46 _ _ (by rfl) (by rfl) #[.slice b writes.length bcap] (by rfl) ⟨_, _, Tryz.func46, by kernel_rfl, rfl⟩ (hC.out _ _ (hw1.out.below (by exact Zlo))) ?_; rintro e w3 ⟨v3, rfl, hown3, hb3⟩; obtain ⟨a3, cap3, rfl⟩ := hown3.form; have hz3 : w1.heap.size <= w3.heap.size := (by have h := hb3.size; simp at h; omega); have k3 : Blk w3 (w.heap.size + 1) #[.slice none 0 0, .slice none 0 0] 46 := (by with_reducible (first | exact k1.drew.step hb3 | exact (k1.alloc _).drew.step hb3)); replace hown3 := hown3.mono (base' := w1.heap.size) (by simp); have hb13 : Below w.heap.size w w3 := (by with_reducible (first | exact hnx.drew.trans (hb3.mono (by simp; omega)) | exact (allocB hnx (by omega) _).drew.trans (hb3.mono (by simp; omega)))); have k03 : Blk w3 w.heap.size #[.slice a safe.length cap, .slice b writes.length bcap] 46 := (by with_reducible (first | exact k0.drew.step hb3 | exact (k0.alloc _).drew.step hb3)); have p0 := k03.cell 0; have p1 := k03.cell 1; simp only [Zga, Zgb, Zgc] at p0 p1; refine ⟨_, rfl, ?_⟩)
  | (refine step_app (by rfl) _ _ 44 (by rfl) w1.heap.size _ 2 24 wrC_flat elemWr (hown3.alloc _) (by rfl) [⟨n, t⟩] (RL.newN (f := wrC) _ _ _ [⟨n, t⟩] (by show 1 <= maxLen; decide)) (by rfl) (by (try simp); omega) (by (try simp); unfold maxLen; omega) (by (try simp); omega) ?_; intro v4 w4 hown4 hb4 _; obtain ⟨a4, cap4, rfl⟩ := hown4.form; have k4 := (k3.alloc _).below hb4 (by omega); have hb14 := (allocB hb13 (by omega) _).trans (hb4.mono (by omega)); have k04 := (k03.alloc _).below hb4 (by omega); have p2 := k04.cell 0; have p3 := k04.cell 1; simp only [Zga, Zgb, Zgc] at p2 p3; have f0 := k4.cell 0; have f1 := k4.cell 1; simp only [Zga, Zgb, Zgc] at f0 f1; have f2 := k4.free 0; have f3 := k4.free 1)
  | (refine step_app (by rfl) _ _ 44 (by rfl) w1.heap.size _ 2 24 wrC_flat elemWr hown3 (by rfl) [⟨n, t⟩] (RL.ofBlk (f := wrC) (g := w1.heap.size) [⟨n, t⟩] ((Blk.newAt (w := w1) (by simp)).drew.step hb3) (by show 1 <= maxLen; decide)) (by rfl) (by (try simp); omega) (by (try simp); unfold maxLen; omega) (by (try simp); omega) ?_; intro v4 w4 hown4 hb4 _; obtain ⟨a4, cap4, rfl⟩ := hown4.form; have k4 := k3.below hb4 (by omega); have hb14 := hb13.trans (hb4.mono (by omega)); have k04 := k03.below hb4 (by omega); have p2 := k04.cell 0; have p3 := k04.cell 1; simp only [Zga, Zgb, Zgc] at p2 p3; have f0 := k4.cell 0; have f1 := k4.cell 1; simp only [Zga, Zgb, Zgc] at f0 f1; have f2 := k4.free 0; have f3 := k4.free 1))
 all_goals
  go_wp2
  have e4 : (writes ++ [(⟨n, t⟩ : Wr)]).length = writes.length + 1 := by simp
  rw [e4] at hown4
  have l1 := k1.lt
  have hF : Below w.heap.size w ((w4.setCell ⟨w.heap.size + 1, 0, none⟩ (.slice a safe.length cap)).setCell ⟨w.heap.size + 1, 1, none⟩ (.slice a4 (writes.length + 1) cap4)) := (hb14.setCell (by simp) _).setCell (by simp) _
  refine bodyPost_ret (v := .tuple #[.agg #[.slice a safe.length cap, .slice a4 (writes.length + 1) cap4], .int .i64 0]) (by simp [results, Tryz.results62, go_sem, f0, f1]) rfl ⟨_, rfl, ⟨_, _, rfl, hs.out.below hF, ?_, n1, by simp; omega⟩, ⟨_, _, _, _, rfl, rfl, .same _ _ _ _ _, ?_⟩, hF⟩
  ·exact ((hown4.setCell (by simp; omega) _).setCell (by simp; omega) _).reads
  ·exact ((hown4.setCell (by simp; omega) _).setCell (by simp; omega) _).slot (by omega)
theorem disk_PutN (d : Dsk) (n : Int) (t : ByteArray) (v : Value) (w : World) (hd : RDisk w v d) :
    Calls Tryz.prog 62 #[v, .int .i64 n, .string t] w fun e w' => ∃ v', e = .returned (.tuple #[v', .int .i64 (putE d n t)]) /\ RDisk w' v' (putD d n t) /\ NewD w.heap.size w' v v' d (putD d n t) /\ Below w.heap.size w w' := by
 have hG := fun w (hh : RDisk w v d) => disk_Good d v w hh
 have hA := fun w => disk_at n w
 have hd2 := hd
 obtain ⟨vs, vw, rfl, hs, hw, n1, n2⟩ := hd
 obtain ⟨a, cap, rfl, _⟩ := hs.form
 obtain ⟨b, bcap, rfl, _⟩ := hw.form
 replace hd2 := hid hd2
 by_cases hg : goodD d = true
 ·rw [hg] at hG
  by_cases ha : isAt n = true
  ·have hg0 := hg
   have ha0 := ha
   rw [ha] at hA
   have hgood : goodD d = true /\ isAt n = true := ⟨hg, ha⟩
   by_cases h32 : t.size = 32
   ·have e1 : ((t.size : Int) != 32) = false := by rw [h32]; rfl
    by_cases h200 : 200 <= d.writes.length
    ·have he : putE d n t = 11 := by unfold putE; rw [if_neg (not_not_intro hgood), if_neg (not_not_intro h32), if_pos h200]
     have hv : putD d n t = d := by unfold putD; rw [he, if_neg (by decide)]
     rw [hv, he]
     clear ha hg hv he hs hw hgood h32
     replace hG := hid hG
     replace hA := hid hA
     go_enter Tryz.func62, Tryz.ntmps62
     go_wp2_with (first
      | (go_at_call 110; refine (hG.out _ (hd2.out.below (by exact Zlo))).mono ?_; rintro e w1 ⟨rfl, hb1⟩; obtain ⟨hbc, hbf⟩ := bcell hb1; have hbz := hb1.size; try simp only [World.size_alloc, World.size_setCell, World.size_drew] at hbz; have hz0 := Nat.lt_of_lt_of_le (n := w.heap.size) (by omega) hbz; have hz1 := Nat.lt_of_lt_of_le (n := w.heap.size + 1) (by omega) hbz)
      | (go_at_call 111; refine (hA.out _).mono ?_; rintro e w2 ⟨rfl, rfl⟩))
     exact bodyPost_ret (v := .tuple #[.agg #[.slice a d.safe.length cap, .slice b d.writes.length bcap], .int .i64 11]) (by simp [results, Tryz.results62, go_sem, hbc]) rfl ⟨_, rfl, hd2.out.below (by exact Zlo), hd2.out.same _, by exact Zlo⟩
    ·have he : putE d n t = 0 := by unfold putE; rw [if_neg (not_not_intro hgood), if_neg (not_not_intro h32), if_neg h200]
     have hv : putD d n t = ⟨d.safe, d.writes ++ [⟨n, t⟩]⟩ := by unfold putD; rw [if_pos he]
     rw [hv, he]
     clear ha hg hv he hgood
     exact disk_Put_good d n t _ w hd2.out hg0 ha0 h32 h200
   ·have e1 : ((t.size : Int) != 32) = true := bne_iff_ne.2 (by omega)
    have he : putE d n t = 1 := by unfold putE; rw [if_neg (not_not_intro hgood), if_pos h32]
    have hv : putD d n t = d := by unfold putD; rw [he, if_neg (by decide)]
    rw [hv, he]
    clear ha hg hv he hs hw hgood h32
    replace hG := hid hG
    replace hA := hid hA
    go_enter Tryz.func62, Tryz.ntmps62
    go_wp2_with (first
     | (go_at_call 110; refine (hG.out _ (hd2.out.below (by exact Zlo))).mono ?_; rintro e w1 ⟨rfl, hb1⟩; obtain ⟨hbc, hbf⟩ := bcell hb1; have hbz := hb1.size; try simp only [World.size_alloc, World.size_setCell, World.size_drew] at hbz; have hz0 := Nat.lt_of_lt_of_le (n := w.heap.size) (by omega) hbz; have hz1 := Nat.lt_of_lt_of_le (n := w.heap.size + 1) (by omega) hbz)
     | (go_at_call 111; refine (hA.out _).mono ?_; rintro e w2 ⟨rfl, rfl⟩))
    exact bodyPost_ret (v := .tuple #[.agg #[.slice a d.safe.length cap, .slice b d.writes.length bcap], .int .i64 1]) (by simp [results, Tryz.results62, go_sem, hbc]) rfl ⟨_, rfl, hd2.out.below (by exact Zlo), hd2.out.same _, by exact Zlo⟩
  ·have he : putE d n t = 2 := by unfold putE; rw [if_pos (fun hh => ha hh.2)]
   have hv : putD d n t = d := by unfold putD; rw [he, if_neg (by decide)]
   rw [hv, he]
   rw [Bool.not_eq_true _ |>.mp ha] at hA
   clear ha hg hv he
   replace hG := hid hG
   replace hA := hid hA
   replace hs := hid hs
   replace hw := hid hw
   go_enter Tryz.func62, Tryz.ntmps62
   go_wp2_with (first
    | (go_at_call 110; refine (hG.out _ (hd2.out.below (by exact Zlo))).mono ?_; rintro e w1 ⟨rfl, hb1⟩; obtain ⟨hbc, hbf⟩ := bcell hb1; have hbz := hb1.size; try simp only [World.size_alloc, World.size_setCell, World.size_drew] at hbz; have hz0 := Nat.lt_of_lt_of_le (n := w.heap.size) (by omega) hbz; have hz1 := Nat.lt_of_lt_of_le (n := w.heap.size + 1) (by omega) hbz)
    | (go_at_call 111; refine (hA.out _).mono ?_; rintro e w2 ⟨rfl, rfl⟩))
   exact bodyPost_ret (v := .tuple #[.agg #[.slice a d.safe.length cap, .slice b d.writes.length bcap], .int .i64 2]) (by simp [results, Tryz.results62, go_sem, hbc]) rfl ⟨_, rfl, hd2.out.below (by exact Zlo), hd2.out.same _, by exact Zlo⟩
 ·have he : putE d n t = 2 := by unfold putE; rw [if_pos (fun hh => hg hh.1)]
  have hv : putD d n t = d := by unfold putD; rw [he, if_neg (by decide)]
  rw [hv, he]
  rw [Bool.not_eq_true _ |>.mp hg] at hG
  clear hg hv he hs hw
  replace hG := hid hG
  go_enter Tryz.func62, Tryz.ntmps62
  go_wp2_with (go_at_call 110; refine (hG.out _ (hd2.out.below (by exact Zlo))).mono ?_; rintro e w1 ⟨rfl, hb1⟩; obtain ⟨hbc, hbf⟩ := bcell hb1; have hbz := hb1.size; try simp only [World.size_alloc, World.size_setCell, World.size_drew] at hbz; have hz0 := Nat.lt_of_lt_of_le (n := w.heap.size) (by omega) hbz; have hz1 := Nat.lt_of_lt_of_le (n := w.heap.size + 1) (by omega) hbz)
  exact bodyPost_ret (v := .tuple #[.agg #[.slice a d.safe.length cap, .slice b d.writes.length bcap], .int .i64 2]) (by simp [results, Tryz.results62, go_sem, hbc]) rfl ⟨_, rfl, hd2.out.below (by exact Zlo), hd2.out.same _, by exact Zlo⟩
end Go.Proofs.YtjhmfljlclajnacGreatDoor
