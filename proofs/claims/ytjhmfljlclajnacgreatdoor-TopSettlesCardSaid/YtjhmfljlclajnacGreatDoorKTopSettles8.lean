/- Parts of the proof: JwI JwJ JnA JwK SeqV Play Qui RowI TxnR TxnA CopyT SlcA JwM. -/
import Derived.Test.YtjhmfljlclajnacGreatDoorKTopSettles4
import Derived.Test.YtjhmfljlclajnacGreatDoorKTopSettles5
import Derived.Test.YtjhmfljlclajnacGreatDoorKTopSettles7
import Derived.Test.YtjhmfljlclajnacGreatDoorKTopSettles2
import Derived.Test.YtjhmfljlclajnacGreatDoorKTopSettles3
import Derived.Test.YtjhmfljlclajnacGreatDoorKTopSettles6
import Derived.Test.YtjhmfljlclajnacGreatDoorKTopSettles0
import Derived.Test.YtjhmfljlclajnacGreatDoorURegCall
import Derived.Test.YtjhmfljlclajnacGreatDoorUBytes
import Derived.Test.YtjhmfljlclajnacGreatDoorChecked
import Derived.Deep.QuietTactic
import Derived.BigQuiet
import Derived.Deep.LoopGhost
import Derived.Test.YtjhmfljlclajnacGreatDoorURegApp
set_option linter.unusedVariables false
set_option linter.unusedSimpArgs false
namespace Wb
open Go Go.RowKit
theorem permJ {α : Type} (a b c : α) (D L : List α) : (a :: b :: c :: (D ++ L)).Perm (c :: (D ++ (a :: b :: L))) := by
 have h1 : (a :: b :: c :: (D ++ L)).Perm (c :: a :: b :: (D ++ L)) := (List.perm_append_comm (l₁ := [a, b]) (l₂ := [c])).append_right _
 exact h1.trans ((List.perm_append_comm_assoc [a, b] D L).cons c)
theorem permB {α : Type} (a b : α) (M L : List α) : (M ++ (a :: b :: L)).Perm (a :: b :: (M ++ L)) := (List.perm_append_comm_assoc [a, b] M L).symm
theorem JFm.acts {Tt Ti : TypeId} {v : JV} {j : Jn} {ds fs : List TV} {MD MU : List Ent} (h : JFm Tt Ti v j ds fs MD MU) (n : Int) : JFm Tt Ti v { j with acts := n } ds fs MD MU := ⟨h.dn, h.us, h.dmap, h.fmap, h.dfit, h.ffit, h.inv.acts n, h.sz⟩
end Wb
namespace Go.Proofs.YtjhmfljlclajnacGreatDoor
open Go.RowKit Wb
set_option maxRecDepth 100000
set_option maxHeartbeats 16000000
theorem jr_noD (c : Int) (w : World) :
    Calls Tryz.prog 34 #[.int .i64 c] w fun e w' => e = .returned (.agg #[.int .i64 c, .int .i64 0, .string ⟨#[]⟩]) ∧ Below w.heap.size w w' := by
 have X : St [] w w [] [] := St.start [] w
 go_enter Tryz.func34, Tryz.ntmps34
 go_wp2_with (first
  | (refine ZyL ?_) | (refine ZyS ?_; clear X; intro w X) | (refine ZyA ?_; clear X; intro g w X))
 exact m_ret1 rfl (.tmp rfl rfl) X (.head _) rfl rfl ⟨rfl, X.below⟩
theorem jr_Do (K : JK) {S : List Nat} {w0 w : World} {L : List Ent} {R : List Rd} {gj : Nat} {j : Jn} {M : List Ent} {Rj : List Rd} (F : JF gj j M Rj) (X : St S w0 w (M ++ L) (Rj ++ R)) (hF : flR 0 ∈ R) (a : Aj) (hs : a.text.size ≤ 9223372036854775807) (hn : a.n ≤ 9223372036854775807) (ha : 0 ≤ j.acts) :
    Calls Tryz.prog 11 #[.pointer (some ⟨gj, 0, none⟩), .agg #[.int .i64 a.kind, .int .i64 a.h, .int .i64 a.b, .int .i64 a.n, .string a.text]] w fun e w' => ∃ M' Rj', e = .returned (doJ j a).2.val ∧ JF gj (doJ j a).1 M' Rj' ∧ St S w0 w' (M' ++ L) (Rj' ++ R) := by
 obtain ⟨v, ds, fs, MD, MU, hm, rfl, rfl⟩ := F
 rw [List.cons_append] at X
 unfold jCells at X
 have hNo := fun c w => jr_noD c w
 replace hNo := hid hNo
 by_cases h4 : 400 ≤ j.acts
 ·have hD : doJ j a = (j, noR 11) := by unfold doJ; rw [if_pos h4]
  replace hD := hid hD; replace hm := hid hm
  go_enter Tryz.func11, Tryz.ntmps11
  go_upto_region 1 with (first
   | (refine Zbx ?_; clear X; intro g w X)
   | (refine ZyL ?_) | (refine ZyS ?_; clear X; intro w X) | (refine ZyA ?_; clear X; intro g w X))
  go_wp2_with (first
   | (refine ZyL ?_) | (refine ZyS ?_; clear X; intro w X) | (refine ZyA ?_; clear X; intro g w X)
   | (go_at_call 34; go_loud ((with_reducible refine (hNo.out _ _).mono ?_); rintro e w1 ⟨rfl, hb1⟩; replace X := X.call hb1; clear hb1)))
  refine m_ret1 rfl (.tmp rfl rfl) X (.head _) rfl rfl ?_
  rw [hD.out]
  first
   | exact ⟨_, _, rfl, ⟨v, ds, fs, MD, MU, hm.out, rfl, rfl⟩, X.sub (List.Sublist.cons _ (List.sublist_cons_self _ _))⟩
   | exact ⟨rfl, _, _, ⟨v, ds, fs, MD, MU, hm.out, rfl, rfl⟩, X.sub (List.Sublist.cons _ (List.sublist_cons_self _ _))⟩
 ·have hw4 : IntKind.i64.wrap (j.acts + 1) = j.acts + 1 := IntWalk.i64_in _ (by omega)
  have hm1 := hm.acts (j.acts + 1)
  replace hm := hid hm; replace hm1 := hid hm1
  have F1 : JF gj { j with acts := j.acts + 1 } (⟨gj, jCells v { j with acts := j.acts + 1 }, 82⟩ :: (MD ++ MU)) (jRds v { j with acts := j.acts + 1 } ds fs) := ⟨v, ds, fs, MD, MU, hm1.out, rfl, rfl⟩
  replace F1 := hid F1
  by_cases hlo : a.kind < 1
  ·have hD : doJ j a = ({ j with acts := j.acts + 1 }, noR 3) := by unfold doJ; rw [if_neg h4, if_pos (.inl hlo)]
   replace hD := hid hD
   go_enter Tryz.func11, Tryz.ntmps11
   go_upto_region 1 with (first
    | (refine Zbx ?_; clear X; intro g w X)
    | (refine ZyL ?_) | (refine ZyS ?_; clear X; intro w X) | (refine ZyA ?_; clear X; intro g w X))
   go_wp2_with (first
    | (refine ZyL ?_) | (refine ZyS ?_; clear X; intro w X) | (refine ZyA ?_; clear X; intro g w X)
    | (go_at_call 34; go_loud ((with_reducible refine (hNo.out _ _).mono ?_); rintro e w1 ⟨rfl, hb1⟩; replace X := X.call hb1; clear hb1)))
   refine m_ret1 rfl (.tmp rfl rfl) X (.head _) rfl rfl ?_
   rw [hD.out]
   first
    | exact ⟨_, _, rfl, F1.out, X.sub (List.Sublist.cons _ (List.sublist_cons_self _ _))⟩
    | exact ⟨rfl, _, _, F1.out, X.sub (List.Sublist.cons _ (List.sublist_cons_self _ _))⟩
  by_cases hhi : 11 < a.kind
  ·have hD : doJ j a = ({ j with acts := j.acts + 1 }, noR 3) := by unfold doJ; rw [if_neg h4, if_pos (.inr hhi)]
   replace hD := hid hD
   go_enter Tryz.func11, Tryz.ntmps11
   go_upto_region 1 with (first
    | (refine Zbx ?_; clear X; intro g w X)
    | (refine ZyL ?_) | (refine ZyS ?_; clear X; intro w X) | (refine ZyA ?_; clear X; intro g w X))
   go_wp2_with (first
    | (refine ZyL ?_) | (refine ZyS ?_; clear X; intro w X) | (refine ZyA ?_; clear X; intro g w X)
    | (go_at_call 34; go_loud ((with_reducible refine (hNo.out _ _).mono ?_); rintro e w1 ⟨rfl, hb1⟩; replace X := X.call hb1; clear hb1)))
   refine m_ret1 rfl (.tmp rfl rfl) X (.head _) rfl rfl ?_
   rw [hD.out]
   first
    | exact ⟨_, _, rfl, F1.out, X.sub (List.Sublist.cons _ (List.sublist_cons_self _ _))⟩
    | exact ⟨rfl, _, _, F1.out, X.sub (List.Sublist.cons _ (List.sublist_cons_self _ _))⟩
  have hkk : ¬ (a.kind < 1 ∨ 11 < a.kind) := by omega
  by_cases k10 : a.kind = 10
  ·have hD : doJ j a = noJ (crashJ { j with acts := j.acts + 1 } a.n) := by unfold doJ; rw [if_neg h4, if_neg hkk, if_pos k10]
   replace hD := hid hD
   have f10 : (a.kind == 10) = true := by rw [k10]; rfl
   go_enter Tryz.func11, Tryz.ntmps11
   go_upto_region 1 with (first
    | (refine Zbx ?_; clear X; intro g w X)
    | (refine ZyL ?_) | (refine ZyS ?_; clear X; intro w X) | (refine ZyA ?_; clear X; intro g w X))
   go_upto_region 10 with (first
    | (refine ZyL ?_) | (refine ZyS ?_; clear X; intro w X) | (refine ZyA ?_; clear X; intro g w X))
   have hC := hid (jr_crash K F1.out (X.perm (permJ _ _ _ _ _)) a.n hn)
   go_wp2_with (first
    | (refine ZyL ?_) | (refine ZyS ?_; clear X; intro w X) | (refine ZyA ?_; clear X; intro g w X)
    | (go_at_call 35; go_loud ((with_reducible refine (hC.out).mono ?_); rintro e w1 ⟨M2, R2, rfl, F2, X2⟩; replace X := X2.perm (permB _ _ _ _); clear X2))
    | (go_at_call 34; go_loud ((with_reducible refine (hNo.out _ _).mono ?_); rintro e w1 ⟨rfl, hb1⟩; replace X := X.call hb1; clear hb1)))
   refine m_ret1 rfl (.tmp rfl rfl) X (.head _) rfl rfl ?_
   rw [hD.out]
   first
    | exact ⟨_, _, rfl, F2, X.sub (List.Sublist.cons _ (List.sublist_cons_self _ _))⟩
    | exact ⟨rfl, _, _, F2, X.sub (List.Sublist.cons _ (List.sublist_cons_self _ _))⟩
  by_cases k11 : a.kind = 11
  ·have hD : doJ j a = noJ (beginJ { j with acts := j.acts + 1 }) := by unfold doJ; rw [if_neg h4, if_neg hkk, if_neg k10, if_pos k11]
   replace hD := hid hD
   have f10 : (a.kind == 10) = false := beq_eq_false_iff_ne.2 k10
   have f11 : (a.kind == 11) = true := by rw [k11]; rfl
   go_enter Tryz.func11, Tryz.ntmps11
   go_upto_region 1 with (first
    | (refine Zbx ?_; clear X; intro g w X)
    | (refine ZyL ?_) | (refine ZyS ?_; clear X; intro w X) | (refine ZyA ?_; clear X; intro g w X))
   go_upto_region 12 with (first
    | (refine ZyL ?_) | (refine ZyS ?_; clear X; intro w X) | (refine ZyA ?_; clear X; intro g w X))
   have hC := hid (jr_begin K F1.out (X.perm (permJ _ _ _ _ _)) hF)
   go_wp2_with (first
    | (refine ZyL ?_) | (refine ZyS ?_; clear X; intro w X) | (refine ZyA ?_; clear X; intro g w X)
    | (go_at_call 36; go_loud ((with_reducible refine (hC.out).mono ?_); rintro e w1 ⟨M2, R2, rfl, F2, X2⟩; replace X := X2.perm (permB _ _ _ _); clear X2))
    | (go_at_call 34; go_loud ((with_reducible refine (hNo.out _ _).mono ?_); rintro e w1 ⟨rfl, hb1⟩; replace X := X.call hb1; clear hb1)))
   refine m_ret1 rfl (.tmp rfl rfl) X (.head _) rfl rfl ?_
   rw [hD.out]
   first
    | exact ⟨_, _, rfl, F2, X.sub (List.Sublist.cons _ (List.sublist_cons_self _ _))⟩
    | exact ⟨rfl, _, _, F2, X.sub (List.Sublist.cons _ (List.sublist_cons_self _ _))⟩
  by_cases k8 : a.kind = 8
  ·have hD : doJ j a = stepJ { j with acts := j.acts + 1 } := by unfold doJ; rw [if_neg h4, if_neg hkk, if_neg k10, if_neg k11, if_pos k8]
   replace hD := hid hD
   have f10 : (a.kind == 10) = false := beq_eq_false_iff_ne.2 k10
   have f11 : (a.kind == 11) = false := beq_eq_false_iff_ne.2 k11
   have f8 : (a.kind == 8) = true := by rw [k8]; rfl
   go_enter Tryz.func11, Tryz.ntmps11
   go_upto_region 1 with (first
    | (refine Zbx ?_; clear X; intro g w X)
    | (refine ZyL ?_) | (refine ZyS ?_; clear X; intro w X) | (refine ZyA ?_; clear X; intro g w X))
   go_upto_region 14 with (first
    | (refine ZyL ?_) | (refine ZyS ?_; clear X; intro w X) | (refine ZyA ?_; clear X; intro g w X))
   have hC := hid (jr_step K F1.out (X.perm (permJ _ _ _ _ _)))
   go_wp2_with (first
    | (refine ZyL ?_) | (refine ZyS ?_; clear X; intro w X) | (refine ZyA ?_; clear X; intro g w X)
    | (go_at_call 37; go_loud ((with_reducible refine (hC.out).mono ?_); rintro e w1 ⟨M2, R2, rfl, F2, X2⟩; replace X := X2.perm (permB _ _ _ _); clear X2)))
   refine m_ret1 rfl (.tmp rfl rfl) X (.head _) rfl rfl ?_
   rw [hD.out]
   first
    | exact ⟨_, _, rfl, F2, X.sub (List.Sublist.cons _ (List.sublist_cons_self _ _))⟩
    | exact ⟨rfl, _, _, F2, X.sub (List.Sublist.cons _ (List.sublist_cons_self _ _))⟩
  by_cases hd : j.down = true
  ·have hD : doJ j a = ({ j with acts := j.acts + 1 }, noR 10) := by unfold doJ; rw [if_neg h4, if_neg hkk, if_neg k10, if_neg k11, if_neg k8, if_pos hd]
   replace hD := hid hD
   have f10 : (a.kind == 10) = false := beq_eq_false_iff_ne.2 k10
   have f11 : (a.kind == 11) = false := beq_eq_false_iff_ne.2 k11
   have f8 : (a.kind == 8) = false := beq_eq_false_iff_ne.2 k8
   obtain ⟨jx1, jx2, jx3, jx4, jx5, jx6, jx7, jx8, jx9, jx10, jx11, jx12, jx13, jx14, jx15, jx16⟩ := j
   dsimp only at hd X
   subst hd
   go_enter Tryz.func11, Tryz.ntmps11
   go_upto_region 1 with (first
    | (refine Zbx ?_; clear X; intro g w X)
    | (refine ZyL ?_) | (refine ZyS ?_; clear X; intro w X) | (refine ZyA ?_; clear X; intro g w X))
   go_wp2_with (first
    | (refine ZyL ?_) | (refine ZyS ?_; clear X; intro w X) | (refine ZyA ?_; clear X; intro g w X)
    | (go_at_call 34; go_loud ((with_reducible refine (hNo.out _ _).mono ?_); rintro e w1 ⟨rfl, hb1⟩; replace X := X.call hb1; clear hb1)))
   refine m_ret1 rfl (.tmp rfl rfl) X (.head _) rfl rfl ?_
   rw [hD.out]
   first
    | exact ⟨_, _, rfl, F1.out, X.sub (List.Sublist.cons _ (List.sublist_cons_self _ _))⟩
    | exact ⟨rfl, _, _, F1.out, X.sub (List.Sublist.cons _ (List.sublist_cons_self _ _))⟩
  have hdf : j.down = false := by simpa using hd
  by_cases k6 : a.kind = 6
  ·have hD : doJ j a = commitJ { j with acts := j.acts + 1 } := by unfold doJ; rw [if_neg h4, if_neg hkk, if_neg k10, if_neg k11, if_neg k8, if_neg hd, if_pos k6]
   replace hD := hid hD
   have f10 : (a.kind == 10) = false := beq_eq_false_iff_ne.2 k10
   have f11 : (a.kind == 11) = false := beq_eq_false_iff_ne.2 k11
   have f8 : (a.kind == 8) = false := beq_eq_false_iff_ne.2 k8
   have f6 : (a.kind == 6) = true := by rw [k6]; rfl
   obtain ⟨jx1, jx2, jx3, jx4, jx5, jx6, jx7, jx8, jx9, jx10, jx11, jx12, jx13, jx14, jx15, jx16⟩ := j
   dsimp only at hdf X
   subst hdf
   go_enter Tryz.func11, Tryz.ntmps11
   go_upto_region 1 with (first
    | (refine Zbx ?_; clear X; intro g w X)
    | (refine ZyL ?_) | (refine ZyS ?_; clear X; intro w X) | (refine ZyA ?_; clear X; intro g w X))
   go_upto_region 19 with (first
    | (refine ZyL ?_) | (refine ZyS ?_; clear X; intro w X) | (refine ZyA ?_; clear X; intro g w X))
   have hC := hid (jr_commit K F1.out (X.perm (permJ _ _ _ _ _)) hF rfl)
   go_wp2_with (first
    | (refine ZyL ?_) | (refine ZyS ?_; clear X; intro w X) | (refine ZyA ?_; clear X; intro g w X)
    | (go_at_call 38; go_loud ((with_reducible refine (hC.out).mono ?_); rintro e w1 ⟨M2, R2, rfl, F2, X2⟩; replace X := X2.perm (permB _ _ _ _); clear X2)))
   refine m_ret1 rfl (.tmp rfl rfl) X (.head _) rfl rfl ?_
   rw [hD.out]
   first
    | exact ⟨_, _, rfl, F2, X.sub (List.Sublist.cons _ (List.sublist_cons_self _ _))⟩
    | exact ⟨rfl, _, _, F2, X.sub (List.Sublist.cons _ (List.sublist_cons_self _ _))⟩
  by_cases k7 : a.kind = 7
  ·have hD : doJ j a = noJ (checkJ { j with acts := j.acts + 1 }) := by unfold doJ; rw [if_neg h4, if_neg hkk, if_neg k10, if_neg k11, if_neg k8, if_neg hd, if_neg k6, if_pos k7]
   replace hD := hid hD
   have f10 : (a.kind == 10) = false := beq_eq_false_iff_ne.2 k10
   have f11 : (a.kind == 11) = false := beq_eq_false_iff_ne.2 k11
   have f8 : (a.kind == 8) = false := beq_eq_false_iff_ne.2 k8
   have f6 : (a.kind == 6) = false := beq_eq_false_iff_ne.2 k6
   have f7 : (a.kind == 7) = true := by rw [k7]; rfl
   obtain ⟨jx1, jx2, jx3, jx4, jx5, jx6, jx7, jx8, jx9, jx10, jx11, jx12, jx13, jx14, jx15, jx16⟩ := j
   dsimp only at hdf X
   subst hdf
   go_enter Tryz.func11, Tryz.ntmps11
   go_upto_region 1 with (first
    | (refine Zbx ?_; clear X; intro g w X)
    | (refine ZyL ?_) | (refine ZyS ?_; clear X; intro w X) | (refine ZyA ?_; clear X; intro g w X))
   go_upto_region 21 with (first
    | (refine ZyL ?_) | (refine ZyS ?_; clear X; intro w X) | (refine ZyA ?_; clear X; intro g w X))
   have hC := hid (jr_check K F1.out (X.perm (permJ _ _ _ _ _)) hF)
   go_wp2_with (first
    | (refine ZyL ?_) | (refine ZyS ?_; clear X; intro w X) | (refine ZyA ?_; clear X; intro g w X)
    | (go_at_call 39; go_loud ((with_reducible refine (hC.out).mono ?_); rintro e w1 ⟨M2, R2, rfl, F2, X2⟩; replace X := X2.perm (permB _ _ _ _); clear X2))
    | (go_at_call 34; go_loud ((with_reducible refine (hNo.out _ _).mono ?_); rintro e w1 ⟨rfl, hb1⟩; replace X := X.call hb1; clear hb1)))
   refine m_ret1 rfl (.tmp rfl rfl) X (.head _) rfl rfl ?_
   rw [hD.out]
   first
    | exact ⟨_, _, rfl, F2, X.sub (List.Sublist.cons _ (List.sublist_cons_self _ _))⟩
    | exact ⟨rfl, _, _, F2, X.sub (List.Sublist.cons _ (List.sublist_cons_self _ _))⟩
  by_cases k9 : a.kind = 9
  ·have hD : doJ j a = ({ j with acts := j.acts + 1 }, readJ { j with acts := j.acts + 1 } a.b) := by unfold doJ; rw [if_neg h4, if_neg hkk, if_neg k10, if_neg k11, if_neg k8, if_neg hd, if_neg k6, if_neg k7, if_pos k9]
   replace hD := hid hD
   have f10 : (a.kind == 10) = false := beq_eq_false_iff_ne.2 k10
   have f11 : (a.kind == 11) = false := beq_eq_false_iff_ne.2 k11
   have f8 : (a.kind == 8) = false := beq_eq_false_iff_ne.2 k8
   have f6 : (a.kind == 6) = false := beq_eq_false_iff_ne.2 k6
   have f7 : (a.kind == 7) = false := beq_eq_false_iff_ne.2 k7
   have f9 : (a.kind == 9) = true := by rw [k9]; rfl
   obtain ⟨jx1, jx2, jx3, jx4, jx5, jx6, jx7, jx8, jx9, jx10, jx11, jx12, jx13, jx14, jx15, jx16⟩ := j
   dsimp only at hdf X
   subst hdf
   go_enter Tryz.func11, Tryz.ntmps11
   go_upto_region 1 with (first
    | (refine Zbx ?_; clear X; intro g w X)
    | (refine ZyL ?_) | (refine ZyS ?_; clear X; intro w X) | (refine ZyA ?_; clear X; intro g w X))
   go_upto_region 23 with (first
    | (refine ZyL ?_) | (refine ZyS ?_; clear X; intro w X) | (refine ZyA ?_; clear X; intro g w X))
   have hC := hid (jr_read K F1.out (X.perm (permJ _ _ _ _ _)) a.b)
   go_wp2_with (first
    | (refine ZyL ?_) | (refine ZyS ?_; clear X; intro w X) | (refine ZyA ?_; clear X; intro g w X)
    | (go_at_call 40; go_loud ((with_reducible refine (hC.out).mono ?_); rintro e w1 ⟨M2, R2, rfl, F2, X2⟩; replace X := X2.perm (permB _ _ _ _); clear X2)))
   refine m_ret1 rfl (.tmp rfl rfl) X (.head _) rfl rfl ?_
   rw [hD.out]
   first
    | exact ⟨_, _, rfl, F2, X.sub (List.Sublist.cons _ (List.sublist_cons_self _ _))⟩
    | exact ⟨rfl, _, _, F2, X.sub (List.Sublist.cons _ (List.sublist_cons_self _ _))⟩
  have hD : doJ j a = noJ (changeJ { j with acts := j.acts + 1 } a) := by unfold doJ; rw [if_neg h4, if_neg hkk, if_neg k10, if_neg k11, if_neg k8, if_neg hd, if_neg k6, if_neg k7, if_neg k9]
  replace hD := hid hD
  have f10 : (a.kind == 10) = false := beq_eq_false_iff_ne.2 k10
  have f11 : (a.kind == 11) = false := beq_eq_false_iff_ne.2 k11
  have f8 : (a.kind == 8) = false := beq_eq_false_iff_ne.2 k8
  have f6 : (a.kind == 6) = false := beq_eq_false_iff_ne.2 k6
  have f7 : (a.kind == 7) = false := beq_eq_false_iff_ne.2 k7
  have f9 : (a.kind == 9) = false := beq_eq_false_iff_ne.2 k9
  obtain ⟨jx1, jx2, jx3, jx4, jx5, jx6, jx7, jx8, jx9, jx10, jx11, jx12, jx13, jx14, jx15, jx16⟩ := j
  dsimp only at hdf X
  subst hdf
  go_enter Tryz.func11, Tryz.ntmps11
  go_upto_region 1 with (first
   | (refine Zbx ?_; clear X; intro g w X)
   | (refine ZyL ?_) | (refine ZyS ?_; clear X; intro w X) | (refine ZyA ?_; clear X; intro g w X))
  go_upto_region 24 with (first
   | (refine ZyL ?_) | (refine ZyS ?_; clear X; intro w X) | (refine ZyA ?_; clear X; intro g w X))
  have hC := hid (jr_change K F1.out (X.perm (permJ _ _ _ _ _)) a hs (by omega) rfl)
  go_wp2_with (first
   | (refine ZyL ?_) | (refine ZyS ?_; clear X; intro w X) | (refine ZyA ?_; clear X; intro g w X)
   | (go_at_call 41; go_loud ((with_reducible refine (hC.out).mono ?_); rintro e w1 ⟨M2, R2, rfl, F2, X2⟩; replace X := X2.perm (permB _ _ _ _); clear X2))
   | (go_at_call 34; go_loud ((with_reducible refine (hNo.out _ _).mono ?_); rintro e w1 ⟨rfl, hb1⟩; replace X := X.call hb1; clear hb1)))
  refine m_ret1 rfl (.tmp rfl rfl) X (.head _) rfl rfl ?_
  rw [hD.out]
  first
   | exact ⟨_, _, rfl, F2, X.sub (List.Sublist.cons _ (List.sublist_cons_self _ _))⟩
   | exact ⟨rfl, _, _, F2, X.sub (List.Sublist.cons _ (List.sublist_cons_self _ _))⟩
theorem mem2J {α : Type} {a b r : α} {R : List α} (h : r ∈ [a, b]) : r ∈ a :: b :: R := by
 rcases List.mem_cons.1 h with rfl | h
 ·exact .head _
 ·rcases List.mem_singleton.1 h with rfl; exact .tail _ (.head _)
theorem rdisk0 {w : World} {a1 : Option Addr} {c1 : Nat} (h1 : RL strC w (.slice a1 newDsk0.safe.length c1) newDsk0.safe) : RDisk w (.agg #[.slice a1 newDsk0.safe.length c1, .slice none 0 0]) newDsk0 := ⟨_, _, rfl, h1, RL.nil _ _, by decide, by decide⟩
theorem jr_New (K : JK) {S : List Nat} {w0 w : World} {L : List Ent} {R : List Rd} (X : St S w0 w L R) :
    Calls Tryz.prog 19 #[] w fun e w' => ∃ g M Rj, e = .returned (.pointer (some ⟨g, 0, none⟩)) ∧ JF g newJ M Rj ∧ St S w0 w' (M ++ L) (Rj ++ R) := by
 have hNw := fun w => K.dnew w
 have hEn := fun w => K.enc (superM 1 0) (.agg #[.int .i64 1, .int .i64 1, .int .i64 0, .slice none 0 0, .slice none 0 0]) w ⟨_, _, rfl, RL.nil _ _, RL.nil _ _, by decide, by decide⟩
 have hPu := fun v w (h : RDisk w v newDsk0) => K.put newDsk0 0 (markS (superM 1 0)) v w h
 have hFl := fun v w (h : RDisk w v (putD newDsk0 0 (markS (superM 1 0)))) => K.flush (putD newDsk0 0 (markS (superM 1 0))) v w h
 have hD : flushD (putD newDsk0 0 (markS (superM 1 0))) = newDsk := rfl
 have hI := inv_new
 have hg0 : goodD newDsk0 = true := by
  refine (goodD_iff _).2 ⟨by simp [newDsk0], by decide, ?_, rfl⟩
  rw [List.all_eq_true]
  intro s hs
  rw [List.eq_of_mem_replicate hs]
  unfold ok32
  rw [fit_size]; rfl
 have hm := dec_mark (super_good (q := 1) (a := 0) (by decide) (by decide))
 have hp : putE newDsk0 0 (markS (superM 1 0)) = 0 := putE_one hg0 (by decide) hm.2.2 (by decide)
 have hg1 := put_good hp
 rw [hD] at hFl
 have hD0 : newDsk0.safe = List.replicate 37 (fit ⟨#[]⟩) := rfl
 rw [← hD0] at hNw
 generalize markE (superM 1 0) = mE at *
 generalize markS (superM 1 0) = mS at *
 generalize putE newDsk0 0 mS = pE at *
 generalize putD newDsk0 0 mS = D1 at *
 generalize flushE D1 = fE at *
 have hJ : newJ = { zeroJ newDsk 0 0 with now := txn0 1 } := rfl
 clear hD hm hp hD0 hg0
 replace hNw := hid hNw; replace hEn := hid hEn; replace hPu := hid hPu; replace hFl := hid hFl; replace hI := hid hI
 go_enter Tryz.func19, Tryz.ntmps19
 go_wp2_with (first
  | (refine Zbx ?_; clear X; intro g w X)
  | (refine ZyL ?_) | (refine ZyS ?_; clear X; intro w X) | (refine ZyA ?_; clear X; intro g w X)
  | (go_at_call 60; go_loud ((with_reducible refine (hNw.out _).mono ?_); rintro e w1 ⟨vs, rfl, ho1, hb1⟩; obtain ⟨a1, c1, rfl⟩ := ho1.form; replace X := (X.addOwn hb1 (ho1.mono (by omega))).addNil; clear hb1 ho1))
  | (go_at_call 61; go_loud ((with_reducible refine (hEn.out _).mono ?_); rintro e w1 ⟨rfl, hb1⟩; replace X := X.call hb1; clear hb1))
  | (go_at_call 62; go_loud ((with_reducible refine (hPu.out _ _ (rdisk0 (X.read (List.Mem.tail _ (List.Mem.head _))))).mono ?_); rintro e w1 ⟨v1, rfl, hr1, hn1, hb1⟩; obtain ⟨as2, cs2, aw2, cw2, rfl, X2⟩ := X.addNewD (as_ := a1) (cs := c1) (aw := none) (cw := 0) hb1 hn1 (fun r hr => by simp only [dskR, List.mem_cons, List.not_mem_nil, or_false] at hr; rcases hr with rfl | rfl; exact .tail _ (.head _); exact .head _); replace X := X2; clear X2 hb1 hn1 hr1))
  | (go_at_call 63; go_loud ((with_reducible refine (hFl.out _ _ (X.dsk (goodD_len hg1).1 (goodD_len hg1).2)).mono ?_); rintro e w1 ⟨v1, rfl, hr1, hn1, hb1⟩; obtain ⟨as3, cs3, aw3, cw3, rfl, X2⟩ := X.addNewD hb1 hn1 (fun r hr => mem2J hr); replace X := X2; clear X2 hb1 hn1 hr1)))
 go_ret
 refine ⟨_, _, _, rfl, ⟨zeroV ⟨as3, cs3⟩ ⟨aw3, cw3⟩, [], [], [], [], ⟨.nil _ _ _, .nil _ _ _, rfl, rfl, (fun x hx => by cases hx), (fun x hx => by cases hx), hI.out, ⟨Nat.zero_le _, Nat.zero_le _⟩⟩, rfl, rfl⟩, ?_⟩
 exact X.jZero rfl rfl rfl rfl (List.Sublist.refl _) (fun r hr => .tail _ (.tail _ (.tail _ (.tail _ hr))))
end Go.Proofs.YtjhmfljlclajnacGreatDoor
namespace Wb
open Go Go.RowKit
def alA : Aj := ⟨1, 0, 0, 2, ⟨#[]⟩⟩
def alB : Aj := ⟨2, 0, 3, 0, ⟨#[120]⟩⟩
def alC : Aj := ⟨9, 0, 3, 0, ⟨#[]⟩⟩
def alD : Aj := ⟨6, 0, 0, 0, ⟨#[]⟩⟩
def alJ1 : Jn := (doJ newJ alA).1
def alJ2 : Jn := (doJ alJ1 alB).1
def alJ3 : Jn := (doJ alJ2 alC).1
theorem al_A : (doJ newJ alA).2.code = 0 := by decide +kernel
theorem al_B : (doJ alJ1 alB).2.code = 0 := by decide +kernel
theorem al_Cn : (doJ alJ2 alC).2.n = 1 := by decide +kernel
theorem al_Ct : (doJ alJ2 alC).2.text = fit ⟨#[120]⟩ := by rfl
theorem al_D : (doJ alJ3 alD).2.code = 9 := by decide +kernel
variable {S : List Nat} {w0 w : World} {L : List Ent} {R R2 : List Rd}
theorem St.lessR (X : St S w0 w L (R2 ++ R)) : St S w0 w L R := ⟨X.mv, X.nd, X.blk, X.own, fun r hr => X.rd r (List.mem_append_right _ hr)⟩
theorem perm1J {α : Type} (a : α) (M L : List α) : (a :: (M ++ L)).Perm (M ++ (a :: L)) := List.perm_append_comm_assoc [a] M L
theorem perm2J {α : Type} (a b : α) (M L : List α) : (a :: b :: (M ++ L)).Perm (M ++ (a :: b :: L)) := List.perm_append_comm_assoc [a, b] M L
theorem perm3J {α : Type} (a b c : α) (M L : List α) : (a :: b :: c :: (M ++ L)).Perm (M ++ (a :: b :: c :: L)) := List.perm_append_comm_assoc [a, b, c] M L
theorem rep_code {r : Rep} {c : Int} (h : r.code = c) : r = ⟨c, r.n, r.text⟩ := by cases r; cases h; rfl
theorem rep_nt {r : Rep} {n : Int} {t : ByteArray} (h : r.n = n) (h2 : r.text = t) : r = ⟨r.code, n, t⟩ := by cases r; cases h; cases h2; rfl
theorem acts_ge {j : Jn} (a : Aj) (h : 0 ≤ j.acts) : 0 ≤ (doJ j a).1.acts := by
 rw [acts_do]; split <;> omega
theorem new_acts : 0 ≤ newJ.acts := by decide
end Wb
namespace Go.Proofs.YtjhmfljlclajnacGreatDoor
open Go.RowKit Wb
set_option maxRecDepth 100000
set_option maxHeartbeats 16000000
theorem jr_DoA (K : JK) {S : List Nat} {w0 w : World} {L : List Ent} {R : List Rd} {gj : Nat} {j : Jn} {M : List Ent} {Rj : List Rd} (F : JF gj j M Rj) (X : St S w0 w (M ++ L) (Rj ++ R)) (hF : flR 0 ∈ R) (a : Aj) (hs : a.text.size ≤ 9223372036854775807) (hn : a.n ≤ 9223372036854775807) (ha : 0 ≤ j.acts) (vs : List Value) (hv : ajC a = vs) {c n : Int} {t : ByteArray} (hr : (doJ j a).2 = ⟨c, n, t⟩) :
    Calls Tryz.prog 11 #[.pointer (some ⟨gj, 0, none⟩), .agg vs.toArray] w fun e w' => ∃ M' Rj', e = .returned (.agg #[.int .i64 c, .int .i64 n, .string t]) ∧ JF gj (doJ j a).1 M' Rj' ∧ St S w0 w' (M' ++ L) (Rj' ++ R) := by
 subst hv
 refine (jr_Do K F X hF a hs hn ha).mono ?_
 rintro e w' ⟨M', Rj', rfl, hJ, hX⟩
 exact ⟨M', Rj', by rw [hr]; rfl, hJ, hX⟩
theorem jr_alive (K : JK) {S : List Nat} {w0 w : World} {L : List Ent} {R : List Rd} (X : St S w0 w L R) (hF : flR 0 ∈ R) :
    Calls Tryz.prog 64 #[] w fun e w' => e = .returned (.bool true) ∧ St S w0 w' L R := by
 have hFi := fun w => K.fit ⟨#[120]⟩ w (by decide)
 have r1 := rep_code al_A
 have r2 := rep_code al_B
 have r3 := rep_nt al_Cn al_Ct
 have r4 := rep_code al_D
 have a1 : 0 ≤ alJ1.acts := acts_ge alA new_acts
 have a2 : 0 ≤ alJ2.acts := acts_ge alB a1
 have a3 : 0 ≤ alJ3.acts := acts_ge alC a2
 generalize (doJ newJ alA).2.n = n1, (doJ newJ alA).2.text = t1 at r1
 generalize (doJ alJ1 alB).2.n = n2, (doJ alJ1 alB).2.text = t2 at r2
 generalize (doJ alJ2 alC).2.code = c3 at r3
 generalize (doJ alJ3 alD).2.n = n4, (doJ alJ3 alD).2.text = t4 at r4
 generalize fit ⟨#[120]⟩ = tx at hFi r3
 have tx1 : (tx.toList == tx.toList) = true := by simp
 replace hFi := hid hFi; replace r1 := hid r1; replace r2 := hid r2; replace r3 := hid r3; replace r4 := hid r4
 replace a1 := hid a1; replace a2 := hid a2; replace a3 := hid a3
 have hN := hid (jr_New K X)
 go_enter Tryz.func64, Tryz.ntmps64
 go_upto_region 4 with (first
  | (refine ZyL ?_) | (refine ZyS ?_; clear X; intro w X) | (refine ZyA ?_; clear X; intro g w X)
  | (go_at_call 19; go_loud ((with_reducible refine (hN.out).mono ?_); rintro e w1 ⟨g, M1, R1, rfl, F1, X2⟩; replace X := X2; clear X2)))
 have hC := hid (jr_DoA K F1 X hF alA (by decide) (by decide) new_acts [.int .i64 1, .int .i64 0, .int .i64 0, .int .i64 2, .string ⟨#[]⟩] rfl r1.out)
 clear hN
 go_upto_region 5 with (first
  | (refine ZyL ?_) | (refine ZyS ?_; clear X; intro w X) | (refine ZyA ?_; clear X; intro g w X)
  | (go_at_call 11; go_loud ((with_reducible refine (hC.out).mono ?_); rintro e w1 ⟨M2, R2, rfl, F2, X2⟩; replace X := X2; clear X2)))
 have hC2 := hid (jr_DoA K F2 (X.perm (perm1J _ _ _)) hF alB (by decide) (by decide) a1.out [.int .i64 2, .int .i64 0, .int .i64 3, .int .i64 0, .string ⟨#[120]⟩] rfl r2.out)
 clear hC
 go_upto_region 6 with (first
  | (refine ZyL ?_) | (refine ZyS ?_; clear X; intro w X) | (refine ZyA ?_; clear X; intro g w X)
  | (go_at_call 11; go_loud ((with_reducible refine (hC2.out).mono ?_); rintro e w1 ⟨M3, R3, rfl, F3, X2⟩; replace X := X2.perm (perm1J _ _ _).symm; clear X2)))
 have hC3 := hid (jr_DoA K F3 (X.perm (perm2J _ _ _ _)) hF alC (by decide) (by decide) a2.out [.int .i64 9, .int .i64 0, .int .i64 3, .int .i64 0, .string ⟨#[]⟩] rfl r3.out)
 clear hC2
 go_upto_region 7 with (first
  | (refine ZyL ?_) | (refine ZyS ?_; clear X; intro w X) | (refine ZyA ?_; clear X; intro g w X)
  | (go_at_call 11; go_loud ((with_reducible refine (hC3.out).mono ?_); rintro e w1 ⟨M4, R4, rfl, F4, X2⟩; replace X := X2.perm (perm2J _ _ _ _).symm; clear X2)))
 have hC4 := hid (jr_DoA K F4 (X.perm (perm3J _ _ _ _ _)) hF alD (by decide) (by decide) a3.out [.int .i64 6, .int .i64 0, .int .i64 0, .int .i64 0, .string ⟨#[]⟩] rfl r4.out)
 clear hC3
 go_upto_region 8 with (first
  | (refine ZyL ?_) | (refine ZyS ?_; clear X; intro w X) | (refine ZyA ?_; clear X; intro g w X)
  | (go_at_call 11; go_loud ((with_reducible refine (hC4.out).mono ?_); rintro e w1 ⟨M5, R5, rfl, F5, X2⟩; replace X := X2.perm (perm3J _ _ _ _ _).symm; clear X2)))
 (refine q_startS 4 [] [11] [1, 5, 10, 16, 21] [0, 1, 2, 3, 4, 5, 6, 7, 8, 9, 10, 11, 12, 13, 14, 15, 16, 17, 18, 19, 20, 21, 22, 23, 24] X ?_; clear X; intro hQ X hL; simp only [zF, zG] at hL; simp only [zF, zG])
 (refine Zf ?_)
 (refine Zl ?_)
 (refine Zg ?_)
 (refine Zm ?_)
 (refine Zf ?_)
 (refine Zl ?_)
 (refine Zg ?_)
 (refine Zg ?_)
 (refine Zm ?_)
 (refine Zf ?_)
 (refine Zl ?_)
 (refine q_callS 65 Tryz.func65 (hFi.out _) ?_; rintro e w1 ⟨rfl, hb1⟩; replace X := X.call hb1; clear hb1; refine Zce ?_; clear hL; intro hL)
 (refine Zg ?_)
 (refine Zg ?_)
 (refine Zm ?_)
 (refine Zf ?_)
 (refine Zl ?_)
 (refine Zg ?_)
 (refine Zg ?_)
 (refine Zm ?_)
 (refine Zf ?_)
 (refine Zl ?_)
 (refine Zg ?_)
 (refine Zg ?_)
 (refine Za ?_)
 refine q_nil ?_
 go_wp2
 go_ret
 exact ⟨rfl, (X.sub (.cons _ (.cons _ (.cons _ (.cons _ (List.sublist_append_right _ _)))))).lessR⟩
end Go.Proofs.YtjhmfljlclajnacGreatDoor
namespace Wb
open Go Go.RowKit
variable {P : Program} {S : List Nat} {w0 w : World} {L : List Ent} {R : List Rd}
variable {ops : Array Oper} {Q : Exit → Act → World → Prop} {L0 : List Ent} {R0 : List Rd} {brk eff lds r : List Nat} {a : Act} {i : Nat} {o : Oper}
theorem q_callV (f : FuncId) {x : Operand} {caps : Array Value} (xs : List Operand) (ts : Array TypeId) (hi : oAt ops i = some o) (ho : o.op = .call { callee := .value x, args := xs.toArray, argTypes := ts }) (hx : EvR a x (.func (.func f) #[] caps)) (args : Array Value) (ha : (xs.map a.eval).toArray = args)
    (hb : ∃ fn c, P.funcs[f]? = some fn ∧ (fn.name == "runtime.NumGoroutine") = false ∧ fn.body = some c) (he : eff.contains i = true) (hw : Region.wanted o (yielded ops a.tmps) = true) {F : Ending → World → Prop}
    (h : Calls P f (args ++ caps) w F) (hK : ∀ e w', F e w' → ∃ v, e = .returned v ∧ (brk.contains i = false → Kept L0 R0 w → Kept L0 R0 w') ∧ SQ P ops Q L0 R0 brk eff lds r (a.put o.dst v) w') : SQ P ops Q L0 R0 brk eff lds (i :: r) a w :=
 q_eff hi he hw fun K hk => by
  subst ha
  obtain ⟨fn, c, h1, h2, h3⟩ := hb
  have hr : (execOp a.eval o).run P w = .ok (.enter f ((xs.map a.eval).toArray ++ caps)) w := by
   unfold execOp
   simp [ho, resolve, invoke, Deferred.ofValue, hx.eval, run_enter h1 h2 h3]
  unfold Oper.wp
  rw [hr, Oper.upon_enter]
  exact h.mono fun e w' hF => by obtain ⟨v, rfl, hs, hq⟩ := hK e w' hF; exact hk _ _ hs hq
def jAt (l : List Aj) (k : Nat) : Jn := (l.take k).foldl (fun j a => (doJ j a).1) newJ
theorem jAt_succ {l : List Aj} {k : Nat} (hk : k < l.length) : jAt l (k + 1) = (doJ (jAt l k) l[k]).1 := by
 unfold jAt
 rw [List.take_add_one, List.getElem?_eq_getElem hk, List.foldl_append]
 rfl
theorem ajC_len (a : Aj) : (ajC a).length = 5 := rfl
theorem RL.atAj {w : World} {al : Option Addr} {n cap : Nat} {l : List Aj} (h : RL ajC w (.slice al n cap) l) {k : Nat} (hk : k < l.length) :
    ∃ b off, al = some ⟨b, off, none⟩ ∧ w.cell? ⟨b, off + k * 5, none⟩ = some (.int .i64 l[k].kind) ∧ w.cell? ⟨b, off + k * 5 + 1, none⟩ = some (.int .i64 l[k].h) ∧ w.cell? ⟨b, off + k * 5 + 2, none⟩ = some (.int .i64 l[k].b) ∧ w.cell? ⟨b, off + k * 5 + 3, none⟩ = some (.int .i64 l[k].n) ∧ w.cell? ⟨b, off + k * 5 + 4, none⟩ = some (.string l[k].text) := by
 obtain ⟨b, off, ha, hc⟩ := RL.at (c := 5) ajC_len h hk (by decide)
 exact ⟨b, off, ha, hc 0 _ rfl, hc 1 _ rfl, hc 2 _ rfl, hc 3 _ rfl, hc 4 _ rfl⟩
end Wb
namespace Go.Proofs.YtjhmfljlclajnacGreatDoor
open Go.RowKit Wb
set_option maxRecDepth 100000
set_option maxHeartbeats 16000000
def LookF (S : List Nat) (w0 : World) (R : List Rd) {σ : Type} (l : List Aj) (N : FuncId) (caps : Array Value) (T : σ → List Ent → List Rd → Prop) (Ph : Nat → σ → Prop) : Prop :=
 ∀ (k : Nat) (hk : k < l.length), k < 150 → ∀ s, Ph k s → ∀ (L : List Ent) (gj : Nat) (w : World) (M : List Ent) (Rj : List Rd) (Ms : List Ent) (Rs : List Rd), JF gj (jAt l (k + 1)) M Rj → T s Ms Rs → St S w0 w (M ++ (Ms ++ L)) (Rj ++ (Rs ++ R)) →
  Calls Tryz.prog N (#[.pointer (some ⟨gj, 0, none⟩), .agg (ajC l[k]).toArray, .agg #[.int .i64 (doJ (jAt l k) l[k]).2.code, .int .i64 (doJ (jAt l k) l[k]).2.n, .string (doJ (jAt l k) l[k]).2.text]] ++ caps) w fun e w' =>
   ∃ s' M' Rj' Ms' Rs', e = .returned (.bool true) ∧ Ph (k + 1) s' ∧ JF gj (jAt l (k + 1)) M' Rj' ∧ T s' Ms' Rs' ∧ St S w0 w' (M' ++ (Ms' ++ L)) (Rj' ++ (Rs' ++ R))
theorem permG {α : Type} (a : α) (M D L : List α) : (a :: (M ++ (D ++ L))).Perm (M ++ (D ++ (a :: L))) := (perm1J a M (D ++ L)).trans ((perm1J a D L).append_left M)
theorem acts_at (l : List Aj) : ∀ k, 0 ≤ (jAt l k).acts := by
 intro k
 unfold jAt
 generalize hj : newJ = j
 have h0 : 0 ≤ j.acts := by rw [← hj]; exact new_acts
 clear hj
 induction l.take k generalizing j with
 | nil => exact h0
 | cons a r ih => exact ih _ (acts_ge a h0)
theorem jr_play (K : JK) {S : List Nat} {w0 w : World} {L : List Ent} {R : List Rd} {σ : Type} (l : List Aj) (hok : ∀ a ∈ l, a.text.size ≤ 9223372036854775807 ∧ a.n ≤ 9223372036854775807) (N : FuncId) (caps : Array Value) (T : σ → List Ent → List Rd → Prop) (Ph : Nat → σ → Prop) (s0 : σ) (Ms : List Ent) (Rs : List Rd) (hT : T s0 Ms Rs) (hP : Ph 0 s0) (X : St S w0 w (Ms ++ L) (Rs ++ R)) (hF : flR 0 ∈ R) {al : Option Addr} {cl : Nat} (hl : Rd.of ajC (.slice al l.length cl) l ∈ R)
    (hb : ∃ fn c, Tryz.prog.funcs[N]? = some fn ∧ (fn.name == "runtime.NumGoroutine") = false ∧ fn.body = some c) (hLk : LookF S w0 R l N caps T Ph) :
    Calls Tryz.prog 21 #[.slice al l.length cl, .func (.func N) #[] caps] w fun e w' => ∃ gj M Rj s Ms Rs, e = .returned (.tuple #[.pointer (some ⟨gj, 0, none⟩), .bool true]) ∧ JF gj (jAt l (min l.length 150)) M Rj ∧ T s Ms Rs ∧ Ph (min l.length 150) s ∧ St S w0 w' (M ++ (Ms ++ L)) (Rj ++ (Rs ++ R)) := by
 have hAl := hid (jr_alive K X (List.mem_append_right _ hF))
 replace hLk := hid hLk
 replace hok := hid hok
 go_enter Tryz.func21, Tryz.ntmps21
 go_upto_region 3 with (first
  | (refine ZyL ?_) | (refine ZyS ?_; clear X; intro w X) | (refine ZyA ?_; clear X; intro g w X)
  | (go_at_call 64; go_loud ((with_reducible refine (hAl.out).mono ?_); rintro e w1 ⟨rfl, X2⟩; replace X := X2; clear X2)))
 clear hAl
 have hN := hid (jr_New K X)
 go_upto_region 4 with (first
  | (refine ZyL ?_) | (refine ZyS ?_; clear X; intro w X) | (refine ZyA ?_; clear X; intro g w X)
  | (go_at_call 19; go_loud ((with_reducible refine (hN.out).mono ?_); rintro e w1 ⟨gj, M, Rj, rfl, F, X2⟩; replace X := X2; clear X2)))
 clear hN
 go_wp2
 go_loopw [7] (fun i wr => ∃ (k : Nat) (s : _) (M : List Ent) (Rj : List Rd) (Ms : List Ent) (Rs : List Rd), k ≤ l.length ∧ k ≤ 150 ∧ i = .int .i64 k ∧ JF gj (jAt l k) M Rj ∧ T s Ms Rs ∧ Ph k s ∧ St S w0 wr (M ++ (Ms ++ L)) (Rj ++ (Rs ++ R))) (fun i _ => l.length - (intOf i).toNat)
 case atStart => exact ⟨0, s0, M, Rj, Ms, Rs, Nat.zero_le _, Nat.zero_le _, rfl, F, hT, hP, X⟩
 case round =>
  clear X F hP hT Ms Rs s0
  obtain ⟨k, s, M, Rj, Ms, Rs, hk1, hk2, rfl, F, hT, hP, X⟩ := hrel
  by_cases hlt : k < l.length
  ·by_cases h150 : k < 150
   ·obtain ⟨b4, off4, hb4, d0, d1, d2, d3, d4⟩ := RL.atAj (X.read (List.mem_append_right _ (List.mem_append_right _ hl))) hlt
    subst hb4
    have hoka := hok.out _ (List.getElem_mem hlt)
    have hD := hid (jr_DoA K F X (List.mem_append_right _ hF) l[k] hoka.1 hoka.2 (acts_at l k) [.int .i64 l[k].kind, .int .i64 l[k].h, .int .i64 l[k].b, .int .i64 l[k].n, .string l[k].text] rfl (c := (doJ (jAt l k) l[k]).2.code) (n := (doJ (jAt l k) l[k]).2.n) (t := (doJ (jAt l k) l[k]).2.text) rfl)
    have hD2 := fun L gj w M Rj F X => hLk.out k hlt h150 s hP L gj w M Rj Ms Rs F hT X
    clear hoka
    rw [← jAt_succ hlt] at hD
    replace hD2 := hid hD2
    have c1 : (k : Int) < (l.length : Int) := by omega
    have c2 : (k : Int) < 150 := by omega
    go_upto_region 8 with (first
     | (refine ZyL ?_) | (refine ZyS ?_; clear X; intro w X) | (refine ZyA ?_; clear X; intro g w X)
     | (go_at_call 11; go_loud ((with_reducible refine (hD.out).mono ?_); rintro e w1 ⟨M2, R2, rfl, F2, X2⟩; replace X := X2; clear X2)))
    clear hD
    (refine q_startS 1 [7] [7] [5, 6] [0, 1, 2, 3, 4, 5, 6, 7, 8] X ?_; clear X; intro hQ X hL; simp only [zF, zG] at hL; simp only [zF, zG])
    (refine Zm ?_)
    (refine Zm ?_)
    (refine Zm ?_)
    (refine Zm ?_)
    (refine Zg ?_)
    refine q_elemN ajC_len hlt rfl rfl (List.mem_append_right _ (List.mem_append_right _ hl)) Zev rfl rfl X hL hQ ?_
    (simp only [Act.put, zA, zB, zC, zD, zE, zF, zG, Nat.reduceAdd])
    (refine Zl ?_)
    refine q_callV N _ _ rfl rfl Zev _ rfl hb rfl rfl (hD2.out _ _ _ _ _ F2 (X.perm (permG _ _ _ _))) ?_
    rintro e w1 ⟨s2, M3, R3, Ms2, Rs2, rfl, hP2, F3, hT2, X3⟩
    refine ⟨_, rfl, fun h => absurd h (by decide), ?_⟩
    clear hL X
    have X := X3
    clear X3
    (simp only [Act.put, zA, zB, zC, zD, zE, zF, zG, Nat.reduceAdd])
    (refine Zg ?_)
    refine q_nil ?_
    go_wp2
    go_roundw
    case rel => exact ⟨k + 1, s2, M3, R3, Ms2, Rs2, by omega, by omega, by go_num, F3, hT2, hP2, X.sub ((List.Sublist.refl _).append ((List.Sublist.refl _).append (List.sublist_cons_self _ _)))⟩
    case measure => simp [intOf]; omega
   ·have c1 : (k : Int) < (l.length : Int) := by omega
    have c2 : ¬ (k : Int) < 150 := by omega
    have hm : min l.length 150 = k := by omega
    replace hm := hid hm
    go_wp2_with (first
     | (refine ZyL ?_) | (refine ZyS ?_; clear X; intro w X) | (refine ZyA ?_; clear X; intro g w X))
    rw [hm.out]
    first
     | exact bodyPost_ret (results_tmp2 rfl _ _ _) rfl ⟨_, _, _, _, _, _, rfl, F, hT, hP, X⟩
     | exact bodyPost_ret (results_tmp2 rfl _ _ _) rfl ⟨_, rfl, _, _, F, _, _, _, hT, hP, X⟩
  ·have hm : min l.length 150 = k := by omega
   replace hm := hid hm
   go_wp2_with (first
    | (refine ZyL ?_) | (refine ZyS ?_; clear X; intro w X) | (refine ZyA ?_; clear X; intro g w X))
   rw [hm.out]
   first
    | exact bodyPost_ret (results_tmp2 rfl _ _ _) rfl ⟨_, _, _, _, _, _, rfl, F, hT, hP, X⟩
    | exact bodyPost_ret (results_tmp2 rfl _ _ _) rfl ⟨_, rfl, _, _, F, _, _, _, hT, hP, X⟩
theorem top_quiet {S : List Nat} {w0 w : World} {LL : List Ent} {RR : List Rd} (X : St S w0 w LL RR) (p : Value) (x1 x2 x3 x4 y1 y2 : Int) (x5 y3 : ByteArray) :
    Calls Tryz.prog 24 #[p, .agg #[.int .i64 x1, .int .i64 x2, .int .i64 x3, .int .i64 x4, .string x5], .agg #[.int .i64 y1, .int .i64 y2, .string y3]] w fun e w' => e = .returned (.bool true) ∧ St S w0 w' LL RR := by
 go_enter Tryz.func24, Tryz.ntmps24
 go_wp2_with (first
  | (refine Zbx ?_; clear X; intro g w X)
  | (refine ZyL ?_) | (refine ZyS ?_; clear X; intro w X) | (refine ZyA ?_; clear X; intro g w X))
 go_ret
 exact ⟨rfl, X.sub (.cons _ (.cons _ (List.Sublist.refl _)))⟩
theorem quiet_look {S : List Nat} {w0 : World} {R : List Rd} (l : List Aj) : LookF S w0 R l 24 #[] (fun (_ : Unit) Ms Rs => Ms = [] ∧ Rs = []) (fun k _ => InvJ (jAt l k)) := by
 intro k hk h150 s hI L gj w M Rj Ms Rs F hT X
 obtain ⟨rfl, rfl⟩ := hT
 have hI2 := inv_do l[k] hI
 rw [← jAt_succ hk] at hI2
 exact (top_quiet X _ _ _ _ _ _ _ _ _).mono fun e w' ⟨he, X2⟩ => ⟨(), M, Rj, [], [], he, hI2, F, ⟨rfl, rfl⟩, X2⟩
theorem play_quiet (K : JK) {S : List Nat} {w0 w : World} {L : List Ent} {R : List Rd} (l : List Aj) (hok : ∀ a ∈ l, a.text.size ≤ 9223372036854775807 ∧ a.n ≤ 9223372036854775807) (X : St S w0 w L R) (hF : flR 0 ∈ R) {al : Option Addr} {cl : Nat} (hl : Rd.of ajC (.slice al l.length cl) l ∈ R) :
    Calls Tryz.prog 21 #[.slice al l.length cl, .func (.func 24) #[] #[]] w fun e w' => ∃ gj M Rj, e = .returned (.tuple #[.pointer (some ⟨gj, 0, none⟩), .bool true]) ∧ JF gj (jAt l (min l.length 150)) M Rj ∧ InvJ (jAt l (min l.length 150)) ∧ St S w0 w' (M ++ L) (Rj ++ R) := by
 refine (jr_play K l hok 24 #[] (fun (_ : Unit) Ms Rs => Ms = [] ∧ Rs = []) (fun k _ => InvJ (jAt l k)) () [] [] ⟨rfl, rfl⟩ inv_new X hF hl ⟨_, _, Tryz.func24, by kernel_rfl, rfl⟩ (quiet_look l)).mono ?_
 rintro e w' ⟨gj, M, Rj, _, Ms, Rs, rfl, F, ⟨rfl, rfl⟩, hI, X2⟩
 exact ⟨gj, M, Rj, rfl, F, hI, X2⟩
end Go.Proofs.YtjhmfljlclajnacGreatDoor
namespace Wb
open Go Go.RowKit
section
variable {α : Type} {f : α → List Value} {base : Nat} {e : TypeId} {c : Nat} {w w' : World} {v : Value} {l : List α}
theorem flat_take (hf : ∀ x, (f x).length = c) : ∀ (l : List α) (i : Nat), i ≤ l.length → (l.flatMap f).take (i * c) = (l.take i).flatMap f
 | l, 0, _ => by simp
 | [], i + 1, h => by simp at h
 | x :: l, i + 1, h => by
  rw [List.flatMap_cons, List.take_succ_cons, List.flatMap_cons, List.take_append, List.take_of_length_le (by rw [hf, Nat.succ_mul]; omega), hf, show (i + 1) * c - c = i * c by rw [Nat.succ_mul]; omega, flat_take hf l i (by simpa using h)]
theorem flat_dropLen (hf : ∀ x, (f x).length = c) (l : List α) (i : Nat) : ((l.drop i).flatMap f).length = (l.length - i) * c := by
 rw [flat_len hf, List.length_drop]
theorem mul_split {n i c : Nat} (h : i ≤ n) : i * c + (n - i) * c = n * c := by rw [← Nat.add_mul]; congr 1; omega
theorem ins_room (hf : ∀ x, (f x).length = c) (L : List Value) (l : List α) (i cap : Nat) (x : α) (hL : L.length = cap * c) (ht : L.take (l.length * c) = l.flatMap f) (hi : i ≤ l.length) (hc : l.length + 1 ≤ cap) {L1 L2 : List Value}
    (h1 : L1 = L.take ((i + 1) * c) ++ (l.drop i).flatMap f ++ L.drop ((i + 1) * c + ((l.drop i).flatMap f).length)) (h2 : L2 = L1.take (i * c) ++ f x ++ L1.drop (i * c + (f x).length)) :
    L2.length = cap * c ∧ L2.take ((l.length + 1) * c) = (l.take i ++ x :: l.drop i).flatMap f := by
 have hx := hf x
 have hd := flat_dropLen hf l i
 have hm := mul_split (c := c) hi
 have hm2 : (l.length + 1) * c ≤ cap * c := Nat.mul_le_mul_right _ hc
 rw [Nat.succ_mul] at hm2
 have hsucc : (i + 1) * c = i * c + (f x).length := by rw [hx, Nat.succ_mul]
 rw [hsucc] at h1
 subst h1
 rw [seg2 L (i * c) (f x) ((l.drop i).flatMap f) (by rw [hx, hd, hL]; omega)] at h2
 subst h2
 have h3 : L.take (i * c) = (l.take i).flatMap f := by
  rw [← flat_take hf l i hi, ← ht, List.take_take, Nat.min_eq_left (by rw [← hm]; omega)]
 have h4 := flat_len hf (l.take i)
 rw [List.length_take, Nat.min_eq_left hi] at h4
 rw [h3]
 refine ⟨?_, ?_⟩
 ·simp only [List.length_append, List.length_drop, h4, hx, hd, hL]
  omega
 ·rw [List.flatMap_append, List.flatMap_cons, ← List.append_assoc]
  have h5 : ((l.take i).flatMap f ++ f x ++ (l.drop i).flatMap f).length = (l.length + 1) * c := by
   simp only [List.length_append, h4, hx, hd, Nat.succ_mul]
   omega
  rw [← h5]
  exact List.take_left
theorem ins_grow (hf : ∀ x, (f x).length = c) (Z : List Value) (l : List α) (i cap : Nat) (x : α) (hZ : Z.length = (cap - i) * c) (hi : i ≤ l.length) (hc : l.length + 1 ≤ cap) {L L1 L2 : List Value} (h0 : L = (l.take i).flatMap f ++ Z)
    (h1 : L1 = L.take (i * c) ++ f x ++ L.drop (i * c + (f x).length)) (h2 : L2 = L1.take ((i + 1) * c) ++ (l.drop i).flatMap f ++ L1.drop ((i + 1) * c + ((l.drop i).flatMap f).length)) :
    L2.length = cap * c ∧ L2.take ((l.length + 1) * c) = (l.take i ++ x :: l.drop i).flatMap f := by
 have hx := hf x
 have hd := flat_dropLen hf l i
 have hm := mul_split (c := c) hi
 have hm2 : (l.length + 1) * c ≤ cap * c := Nat.mul_le_mul_right _ hc
 rw [Nat.succ_mul] at hm2
 have hm3 := mul_split (c := c) (n := cap) (i := i) (by omega)
 have hsucc : (i + 1) * c = i * c + (f x).length := by rw [hx, Nat.succ_mul]
 have h4 := flat_len hf (l.take i)
 rw [List.length_take, Nat.min_eq_left hi] at h4
 have hL : L.length = cap * c := by rw [h0, List.length_append, h4, hZ]; exact hm3
 rw [hsucc] at h2
 subst h1
 rw [seg3 L (i * c) (f x) ((l.drop i).flatMap f) (by rw [hx, hd, hL]; omega)] at h2
 subst h2
 have h3 : L.take (i * c) = (l.take i).flatMap f := by
  rw [h0, ← h4]
  exact List.take_left
 rw [h3]
 refine ⟨?_, ?_⟩
 ·simp only [List.length_append, List.length_drop, h4, hx, hd, hL]
  omega
 ·rw [List.flatMap_append, List.flatMap_cons, ← List.append_assoc]
  have h5 : ((l.take i).flatMap f ++ f x ++ (l.drop i).flatMap f).length = (l.length + 1) * c := by
   simp only [List.length_append, h4, hx, hd, Nat.succ_mul]
   omega
  rw [← h5]
  exact List.take_left
theorem row_from (hf : ∀ x, (f x).length = c) {g : Nat} {cur : Array Value} (hk : Blk w g cur e) (ht : cur.toList.take (l.length * c) = l.flatMap f) {i : Nat} (hi : i ≤ l.length) :
    ∀ j u, ((l.drop i).flatMap f)[j]? = some u → w.cell? ⟨g, i * c + j, none⟩ = some u := by
 intro j u hj
 have hd := flat_dropLen hf l i
 have hm := mul_split (c := c) hi
 have hlt : j < ((l.drop i).flatMap f).length := (List.getElem?_eq_some_iff.1 hj).1
 have h4 := flat_len hf (l.take i)
 rw [List.length_take, Nat.min_eq_left hi] at h4
 have h5 : (l.flatMap f)[i * c + j]? = some u := by
  conv => lhs; rw [← List.take_append_drop i l]
  rw [List.flatMap_append, List.getElem?_append_right (by omega), h4, Nat.add_sub_cancel_left]
  exact hj
 rw [← ht, List.getElem?_take, if_pos (by omega)] at h5
 rw [hk.cell, ← h5]
 simp
theorem Own.cut {g cap : Nat} (hF : Flat f c) (h : Own f base e c w (.slice (some ⟨g, 0, none⟩) l.length cap) l) {i : Nat} (hi : i ≤ l.length) (zs : List Value) (hz : i * c + zs.length ≤ l.length * c) :
    Own f base e c (w.setCells g (i * c) zs) (.slice (some ⟨g, 0, none⟩) i cap) (l.take i) := by
 obtain ⟨h1, h2⟩ := h
 rcases h2 with ⟨h3, _⟩ | ⟨g', cap', cur, hv, hb, hg, hn, hc, hs, ht⟩
 ·exact absurd h3 (by simp)
 ·simp only [Value.slice.injEq, Option.some.injEq, Addr.mk.injEq, true_and, and_true] at hv
  obtain ⟨rfl, rfl⟩ := hv
  have hle : l.length * c ≤ cap * c := Nat.mul_le_mul_right _ hn
  have hk := Blk.sets (t := e) zs (i * c) w cur hg (by rw [hs]; omega)
  have hil : (l.take i).length = i := by rw [List.length_take]; omega
  have hm := mul_split (c := c) hi
  have := Own.ofRow (l := l.take i) (cap := cap) hF hb hk (by rw [hil]; omega) hc (by
   simp only [List.size_toArray, List.length_append, List.length_take, List.length_drop, Array.length_toList, hs]
   omega) (by
   rw [hil]
   show ((cur.toList.take (i * c) ++ zs) ++ _).take (i * c) = _
   rw [List.append_assoc, List.take_append_of_le_length (by rw [List.length_take, Array.length_toList, hs]; omega), List.take_take, Nat.min_self, ← flat_take hF.len l i hi, ← ht, List.take_take, Nat.min_eq_left (by omega)])
  rw [hil] at this
  exact this
def KeptI (p : α → Bool) (l : List α) (j i : Nat) (lk : List α) : Prop :=
 lk.length = l.length ∧ i = ((l.take j).filter p).length ∧ lk.take i = (l.take j).filter p ∧ lk.drop j = l.drop j
theorem KeptI.le {p : α → Bool} {j i : Nat} {lk : List α} (h : KeptI p l j i lk) : i ≤ j := by
 rw [h.2.1]
 exact Nat.le_trans (List.length_filter_le _ _) (by rw [List.length_take]; exact Nat.min_le_left _ _)
theorem KeptI.get {p : α → Bool} {j i : Nat} {lk : List α} (h : KeptI p l j i lk) (hj : j < l.length) : ∃ hk : j < lk.length, lk[j] = l[j] := by
 have hk : j < lk.length := by rw [h.1]; exact hj
 refine ⟨hk, ?_⟩
 have h1 := congrArg (fun x => x[0]?) h.2.2.2
 simp only [List.getElem?_drop, Nat.add_zero] at h1
 rw [List.getElem?_eq_getElem hk, List.getElem?_eq_getElem hj, Option.some.injEq] at h1
 exact h1
theorem KeptI.keep {p : α → Bool} {j i : Nat} {lk : List α} (h : KeptI p l j i lk) (hj : j < l.length) (hp : p l[j] = true) : KeptI p l (j + 1) (i + 1) (lk.set i l[j]) := by
 have hij := h.le
 obtain ⟨h1, h2, h3, h4⟩ := h
 have h5 : (l.take (j + 1)).filter p = (l.take j).filter p ++ [l[j]] := by rw [List.take_succ_eq_append_getElem hj, List.filter_append, List.filter_cons, if_pos hp, List.filter_nil]
 refine ⟨by simpa using h1, by rw [h5, List.length_append, ← h2]; rfl, ?_, ?_⟩
 ·rw [h5, ← h3, List.take_succ_eq_append_getElem (by rw [List.length_set, h1]; omega), List.getElem_set_self]
  congr 1
  rw [List.take_set_of_le (by omega)]
 ·rw [List.drop_set_of_lt (by omega), ← List.drop_drop, h4, List.drop_drop]
theorem KeptI.skip {p : α → Bool} {j i : Nat} {lk : List α} (h : KeptI p l j i lk) (hj : j < l.length) (hp : p l[j] = false) : KeptI p l (j + 1) i lk := by
 obtain ⟨h1, h2, h3, h4⟩ := h
 have h5 : (l.take (j + 1)).filter p = (l.take j).filter p := by rw [List.take_succ_eq_append_getElem hj, List.filter_append, List.filter_cons, if_neg (by rw [hp]; simp), List.filter_nil, List.append_nil]
 exact ⟨h1, by rw [h5, ← h2], by rw [h5, ← h3], by rw [← List.drop_drop, h4, List.drop_drop]⟩
theorem KeptI.start {p : α → Bool} {k : Nat} (hk : k < l.length) (h : ∀ i (hi : i < l.length), i < k → p l[i] = true) (hp : p l[k] = false) : KeptI p l (k + 1) k l := by
 have h5 : (l.take k).filter p = l.take k := List.filter_eq_self.2 (fun x hx => by
  obtain ⟨i, hi, rfl⟩ := List.getElem_of_mem hx
  rw [List.length_take] at hi
  rw [List.getElem_take]
  exact h i (by omega) (by omega))
 refine KeptI.skip ⟨rfl, ?_, ?_, rfl⟩ hk hp
 ·rw [h5, List.length_take]; omega
 ·rw [h5]
theorem KeptI.done {p : α → Bool} {j i : Nat} {lk : List α} (h : KeptI p l j i lk) (hj : l.length ≤ j) : lk.take i = l.filter p ∧ i = (l.filter p).length := by
 obtain ⟨h1, h2, h3, h4⟩ := h
 rw [List.take_of_length_le hj] at h2 h3
 exact ⟨h3, h2⟩
theorem filter_all {p : α → Bool} (h : ∀ i (hi : i < l.length), p l[i] = true) : l.filter p = l := List.filter_eq_self.2 (fun x hx => by
 obtain ⟨i, hi, rfl⟩ := List.getElem_of_mem hx
 exact h i hi)
end
end Wb
namespace Go.Proofs.YtjhmfljlclajnacGreatDoor
open Go.RowKit Wb
set_option maxRecDepth 100000
set_option maxHeartbeats 2000000
theorem elemCpy : Elem Tryz.prog 34 92 2 24 := Elem.mk' (z := .agg #[.int .i64 0, .string ⟨#[]⟩]) Tryz.underlying34 (by kernel_rfl) rfl
end Go.Proofs.YtjhmfljlclajnacGreatDoor
namespace Go.Proofs.YtjhmfljlclajnacGreatDoor
open Go.RowKit Wb
set_option maxRecDepth 100000
set_option maxHeartbeats 4000000
theorem txn_block (b : Int) (w : World) : Calls Tryz.prog 71 #[.int .i64 b] w fun e w' => e = .returned (.bool (isBlk b)) ∧ w = w' := by
 by_cases h0 : 0 ≤ b
 ·by_cases h1 : b < 12
  ·have hv : isBlk b = true := decide_eq_true ⟨h0, h1⟩
   rw [hv]
   go_enter Tryz.func71, Tryz.ntmps71
   go_wp2
   go_ret
   exact ⟨rfl, rfl⟩
  ·have hv : isBlk b = false := decide_eq_false fun hh => h1 hh.2
   rw [hv]
   go_enter Tryz.func71, Tryz.ntmps71
   go_wp2
   go_ret
   exact ⟨rfl, rfl⟩
 ·have hv : isBlk b = false := decide_eq_false fun hh => h0 hh.1
  rw [hv]
  go_enter Tryz.func71, Tryz.ntmps71
  go_wp2
  go_ret
  exact ⟨rfl, rfl⟩
theorem txn_find1 (c : Cpy) (b : Int) (w : World) : Calls Tryz.prog 157 #[.agg #[.int .i64 c.block, .string c.text], .int .i64 b] w fun e w' => e = .returned (.int .i64 (cmpI c.block b)) ∧ Below w.heap.size w w' := by
 obtain ⟨x, s⟩ := c
 have k0 := Blk.new w #[.int .i64 x, .string s] 92
 have c0 := k0.cell 0; have c1 := k0.cell 1
 simp only [Zga, Zgb, Zgc] at c0 c1
 dsimp only
 by_cases h1 : x < b
 ·rw [cmpI_lt h1]
  go_enter Tryz.func157, Tryz.ntmps157
  go_wp2
  go_ret
  exact ⟨rfl, bal (b0 w) _⟩
 ·by_cases h2 : b < x
  ·rw [cmpI_gt h2]
   go_enter Tryz.func157, Tryz.ntmps157
   go_wp2
   go_ret
   exact ⟨rfl, bal (b0 w) _⟩
  ·have h3 : x = b := by omega
   rw [cmpI_eq h3]
   subst h3
   go_enter Tryz.func157, Tryz.ntmps157
   go_wp2
   go_ret
   exact ⟨rfl, bal (b0 w) _⟩
theorem slices_BinarySearchC (l : List Cpy) (b : Int) (v : Value) (w : World) (hs : rise (blks l) = true) (h : RL cpyC w v l) (hl : l.length ≤ 5864062014805) :
    Calls Tryz.prog 156 #[v, .int .i64 b, .func (.func 157) #[] #[]] w fun e w' => e = .returned (.tuple #[.int .i64 (posB l b : Nat), .bool (hasB l b)]) ∧ Below w.heap.size w w' := by
 obtain ⟨a, cap, rfl, _⟩ := h.form
 have hr := hid (rises hs)
 have hpo := hid (fun i h0 h1 h2 => pos_of (l := l) (b := b) (i := i) h0 h1 h2)
 have hha := hid (fun i h1 h2 => has_of (l := l) (b := b) (i := i) hr.out h1 h2)
 generalize posB l b = p at *
 generalize hasB l b = hb at *
 have hC := fun c w => txn_find1 c b w
 replace h := hid h; replace hC := hid hC
 clear hs
 go_enter Tryz.func156, Tryz.ntmps156
 go_wp2
 go_loopg [9, 10] l.length (fun kx s9 s10 wr => ∃ lo hi : Nat, s9 = .int .i64 lo ∧ s10 = .int .i64 hi ∧ lo ≤ hi ∧ hi ≤ l.length ∧ hi - lo ≤ kx ∧ Below w.heap.size w wr ∧ Hid (∀ k (hk : k < l.length), k < lo → l[k].block < b) ∧ Hid (∀ k (hk : k < l.length), hi ≤ k → b ≤ l[k].block))
 case atStart => exact ⟨0, l.length, rfl, rfl, Nat.zero_le _, Nat.le_refl _, by omega, b0 w, hid (fun k _ hk => absurd hk (Nat.not_lt_zero k)), hid (fun k hk h2 => by omega)⟩
 case round =>
  obtain ⟨lo, hi, rfl, rfl, hlh, hin, hg, nx, i1, i2⟩ := hrel
  by_cases hlt : lo < hi
  ·have hm : (lo + hi) / 2 < l.length := by omega
   obtain ⟨b1, o1, rfl, c0, c1⟩ := RL.at2 (fun x => .int .i64 x.block) (fun x => .string x.text) (fun _ => rfl) (h.out.below nx) hm
   have j1 := hid (fun (hh : l[(lo + hi) / 2].block < b) => (show ∀ k (hk : k < l.length), k < (lo + hi) / 2 + 1 → l[k].block < b from fun k hk hk2 => by
    by_cases e : k = (lo + hi) / 2
    ·subst e; exact hh
    ·have := hr.out _ hm k (by omega); omega))
   have j2 := hid (fun (hh : b ≤ l[(lo + hi) / 2].block) => (show ∀ k (hk : k < l.length), (lo + hi) / 2 ≤ k → b ≤ l[k].block from fun k hk hk2 => by
    by_cases e : k = (lo + hi) / 2
    ·subst e; exact hh
    ·have := hr.out k hk _ (show (lo + hi) / 2 < k by omega); omega))
   generalize l[(lo + hi) / 2] = x at *
   have hCx := hC.out x
   by_cases hx : x.block < b
   ·rw [cmpI_lt hx] at hCx
    replace j1 := hid (j1.out hx)
    replace hCx := hid hCx
    clear j2
    go_wp2_with (go_at_call 157; go_loud ((with_reducible refine (hCx.out _).mono ?_); rintro e w1 ⟨rfl, hb1⟩))
    go_roundg (hi - ((lo + hi) / 2 + 1))
    case measure => omega
    case rel => exact ⟨(lo + hi) / 2 + 1, hi, by rw [show ((lo : Int) + (hi : Int)) / 2 + 1 = (((lo + hi) / 2 + 1 : Nat) : Int) by omega], rfl, by omega, hin, Nat.le_refl _, bgo nx hb1, j1, i2⟩
   ·have hnn : ¬ cmpI x.block b < 0 := by
      by_cases h2 : b < x.block
      · rw [cmpI_gt h2]; decide
      · rw [cmpI_eq (by omega)]; decide
    generalize cmpI x.block b = cv at *
    replace j2 := hid (j2.out (by omega))
    replace hCx := hid hCx
    clear j1 hx
    go_wp2_with (go_at_call 157; go_loud ((with_reducible refine (hCx.out _).mono ?_); rintro e w1 ⟨rfl, hb1⟩))
    go_roundg ((lo + hi) / 2 - lo)
    case measure => omega
    case rel => exact ⟨lo, (lo + hi) / 2, rfl, by rw [show ((lo : Int) + (hi : Int)) / 2 = (((lo + hi) / 2 : Nat) : Int) by omega], by omega, by omega, Nat.le_refl _, bgo nx hb1, i1, j2⟩
  ·obtain rfl : hi = lo := by omega
   have hp := hid (hpo.out hi hin i1.out i2.out)
   have hh := hid (hha.out hi i1.out i2.out)
   by_cases hn : hi < l.length
   ·obtain ⟨b1, o1, rfl, c0, c1⟩ := RL.at2 (fun x => .int .i64 x.block) (fun x => .string x.text) (fun _ => rfl) (h.out.below nx) hn
    have hge := i2.out hi hn (Nat.le_refl _)
    have hh2 : hb = true ↔ l[hi].block = b := ⟨fun h => (hh.out.1 h).2, fun h => hh.out.2 ⟨hn, h⟩⟩
    clear i1 i2 hh
    generalize l[hi] = x at *
    have hCx := hC.out x
    by_cases hx : x.block = b
    ·have hv := hid (hh2.2 hx)
     rw [cmpI_eq hx] at hCx
     replace hCx := hid hCx
     clear hx hge hh2
     go_wp2_with (go_at_call 157; go_loud ((with_reducible refine (hCx.out _).mono ?_); rintro e w1 ⟨rfl, hb1⟩))
     go_ret2
     exact ⟨by rw [hp.out, hv.out]; rfl, bgo nx hb1⟩
    ·have hv := hid (show hb = false by
       cases hbv : hb with
       | false => rfl
       | true => exact absurd (hh2.1 hbv) hx)
     rw [cmpI_gt (by omega)] at hCx
     replace hCx := hid hCx
     clear hx hge hh2
     go_wp2_with (go_at_call 157; go_loud ((with_reducible refine (hCx.out _).mono ?_); rintro e w1 ⟨rfl, hb1⟩))
     go_ret2
     exact ⟨by rw [hp.out, hv.out]; rfl, bgo nx hb1⟩
   ·have hv := hid (show hb = false by
      cases hbv : hb with
      | false => rfl
      | true => obtain ⟨h1, _⟩ := hh.out.1 hbv; omega)
    clear hh i1 i2
    go_wp2
    go_ret2
    exact ⟨by rw [hp.out, hv.out]; rfl, nx⟩
theorem txn_find (l : List Cpy) (b : Int) (v : Value) (w : World) (hs : rise (blks l) = true) (h : RL cpyC w v l) (hl : l.length ≤ 5864062014805) :
    Calls Tryz.prog 114 #[v, .int .i64 b] w fun e w' => e = .returned (.tuple #[.int .i64 (posB l b : Nat), .bool (hasB l b)]) ∧ Below w.heap.size w w' := by
 have hB := hid (slices_BinarySearchC l b v w hs h hl)
 obtain ⟨a, cap, rfl, _⟩ := h.form
 generalize posB l b = p at *
 clear h hs
 go_enter Tryz.func114, Tryz.ntmps114
 go_wp2_with (go_at_call 156; go_loud ((with_reducible refine hB.out.mono ?_); rintro e w1 ⟨rfl, hb1⟩))
 go_ret2
 exact ⟨rfl, hb1⟩
theorem txn_has (l : List Cpy) (b : Int) (v : Value) (w : World) (hs : rise (blks l) = true) (h : RL cpyC w v l) (hl : l.length ≤ 5864062014805) :
    Calls Tryz.prog 72 #[v, .int .i64 b] w fun e w' => e = .returned (.bool (hasB l b)) ∧ Below w.heap.size w w' := by
 have hB := hid (txn_find l b v w hs h hl)
 obtain ⟨a, cap, rfl, _⟩ := h.form
 clear h hs
 go_enter Tryz.func72, Tryz.ntmps72
 go_wp2_with (go_at_call 114; go_loud ((with_reducible refine hB.out.mono ?_); rintro e w1 ⟨rfl, hb1⟩))
 go_ret
 exact ⟨rfl, hb1⟩
end Go.Proofs.YtjhmfljlclajnacGreatDoor
namespace Wb
open Go Go.RowKit
theorem Own.setCells {α : Type} {f : α → List Value} {base : Nat} {e : TypeId} {c : Nat} {v : Value} {l : List α} : ∀ (ps : List (Addr × Value)) (w : World), Own f base e c w v l → (∀ p ∈ ps, p.1.block < base) → Own f base e c (ps.foldl (fun w p => w.setCell p.1 p.2) w) v l
 | [], _, h, _ => h
 | p :: ps, w, h, hp => Own.setCells ps _ (h.setCell (hp p (by simp)) p.2) (fun q hq => hp q (by simp [hq]))
theorem Below.setCells {B : Nat} {w : World} : ∀ (ps : List (Addr × Value)) (w' : World), Below B w w' → (∀ p ∈ ps, B ≤ p.1.block) → Below B w (ps.foldl (fun w p => w.setCell p.1 p.2) w')
 | [], _, h, _ => h
 | p :: ps, w', h, hp => Below.setCells ps _ (h.setCell (hp p (by simp)) p.2) (fun q hq => hp q (by simp [hq]))
end Wb
namespace Go.Proofs.YtjhmfljlclajnacGreatDoor
open Go.RowKit Wb
set_option maxRecDepth 100000
set_option maxHeartbeats 4000000
theorem elemIntT : Elem Tryz.prog 35 3 1 8 := Elem.mk' (z := .int .i64 0) Tryz.underlying35 (by kernel_rfl) rfl
end Go.Proofs.YtjhmfljlclajnacGreatDoor
namespace Wb
open Go Go.RowKit
def idxK {α : Type} (key : α → Int) (l : List α) (b : Int) : Int := match l.findIdx? (fun x => key x == b) with
 | some k => (k : Int)
 | none => -1
section
variable {α : Type} {key : α → Int} {l : List α} {b : Int}
theorem idxK_hit {k : Nat} (hk : k < l.length) (h1 : key l[k] = b) (h2 : ∀ i (hi : i < k), ¬ key l[i] = b) : idxK key l b = k := by
 have : l.findIdx? (fun x => key x == b) = some k := List.findIdx?_eq_some_iff_getElem.2 ⟨hk, by simpa using h1, fun j hj => by simpa using h2 j hj⟩
 unfold idxK; rw [this]
theorem idxK_none (h2 : ∀ i (hi : i < l.length), ¬ key l[i] = b) : idxK key l b = -1 := by
 have : l.findIdx? (fun x => key x == b) = none := List.findIdx?_eq_none_iff.2 (fun x hx => by
  obtain ⟨i, hi, rfl⟩ := List.getElem_of_mem hx
  simpa using h2 i hi)
 unfold idxK; rw [this]
theorem idxK_spec (key : α → Int) (l : List α) (b : Int) : (idxK key l b = -1 ∧ ∀ i (hi : i < l.length), ¬ key l[i] = b) ∨ ∃ k : Nat, idxK key l b = k ∧ ∃ hk : k < l.length, key l[k] = b ∧ ∀ i (hi : i < k), ¬ key l[i] = b := by
 cases e : l.findIdx? (fun x => key x == b) with
 | none =>
  refine .inl ⟨by unfold idxK; rw [e], fun i hi hb => ?_⟩
  have := List.findIdx?_eq_none_iff.1 e _ (List.getElem_mem hi)
  simp [hb] at this
 | some k =>
  obtain ⟨hk, h1, h2⟩ := List.findIdx?_eq_some_iff_getElem.1 e
  exact .inr ⟨k, by unfold idxK; rw [e], hk, by simpa using h1, fun i hi => by simpa using h2 i hi⟩
end
end Wb
namespace Go.Proofs.YtjhmfljlclajnacGreatDoor
open Go.RowKit Wb
set_option maxRecDepth 100000
set_option maxHeartbeats 8000000
theorem slices_CloneI (l : List Int) (v : Value) (w : World) (h : RL intC w v l) (hl : l.length ≤ 17592186044160) :
    Calls Tryz.prog 44 #[v] w fun e w' => ∃ v', e = .returned v' ∧ Wb.Own intC w.heap.size 3 1 w' v' l ∧ Below w.heap.size w w' := by
 have hh := h
 obtain ⟨a, cap, rfl, _, _, h3⟩ := hh
 cases a with
 | none =>
  have h0 : l = [] := by
   rcases h3 with h3 | ⟨_, _, h4, _⟩
   ·have hl2 := flat_len intC_flat.len l
    rw [h3] at hl2
    exact List.length_eq_zero_iff.1 (by simp at hl2; omega)
   ·cases h4
  subst h0
  have heq := Lib.run_eql_slice_nil (P := Tryz.prog) w 35 3 none 0 cap 0 0 elemIntT.under
  clear h h3 hl
  go_enter Tryz.func44, Tryz.ntmps44
  go_wp2
  go_ret
  exact ⟨_, rfl, Own.nil _ _ _ _ _, b0 w⟩
 | some p =>
  obtain ⟨pb, po, ps⟩ := p
  replace h := hid h
  clear h3
  have h0 : Wb.Own intC w.heap.size 3 1 (w.alloc (.cells #[] 3)) (.slice (some ⟨w.heap.size, 0, none⟩) 0 0) [] := Own.ofRow (l := ([] : List Int)) intC_flat (Nat.le_refl _) (Blk.new w #[] _) (Nat.le_refl _) (by unfold maxLen; omega) rfl rfl
  have nx := bal (b0 w) (.cells #[] 3)
  have heq := Lib.run_eql_slice_nil (P := Tryz.prog) w 35 3 (some ⟨pb, po, ps⟩) l.length cap 0 0 elemIntT.under
  replace h0 := hid h0
  go_enter Tryz.func44, Tryz.ntmps44
  go_wp2_with (at_builtin; refine wpList_app rfl _ _ 35 rfl w.heap.size _ 1 8 intC_flat elemIntT h0.out rfl l (h.out.below nx) rfl (by simp; omega) (by simp; unfold maxLen; omega) (by simp) ?_; intro v1 w1 hown1 hg1; obtain ⟨a1, cap1, rfl⟩ := hown1.form; have nx2 := nx.trans (h0.out.belowGrown (by simp) hg1); simp only [List.nil_append, List.length_nil, Nat.zero_add] at hown1 nx2)
  go_ret
  exact ⟨_, rfl, hown1, nx2⟩
theorem slices_CloneC (l : List Cpy) (v : Value) (w : World) (h : RL cpyC w v l) (hl : l.length ≤ 5864062014805) :
    Calls Tryz.prog 43 #[v] w fun e w' => ∃ v', e = .returned v' ∧ Wb.Own cpyC w.heap.size 92 2 w' v' l ∧ Below w.heap.size w w' := by
 have hh := h
 obtain ⟨a, cap, rfl, _, _, h3⟩ := hh
 cases a with
 | none =>
  have h0 : l = [] := by
   rcases h3 with h3 | ⟨_, _, h4, _⟩
   ·have hl2 := flat_len cpyC_flat.len l
    rw [h3] at hl2
    exact List.length_eq_zero_iff.1 (by simp at hl2; omega)
   ·cases h4
  subst h0
  have heq := Lib.run_eql_slice_nil (P := Tryz.prog) w 34 92 none 0 cap 0 0 elemCpy.under
  clear h h3 hl
  go_enter Tryz.func43, Tryz.ntmps43
  go_wp2
  go_ret
  exact ⟨_, rfl, Own.nil _ _ _ _ _, b0 w⟩
 | some p =>
  obtain ⟨pb, po, ps⟩ := p
  replace h := hid h
  clear h3
  have h0 : Wb.Own cpyC w.heap.size 92 2 (w.alloc (.cells #[] 92)) (.slice (some ⟨w.heap.size, 0, none⟩) 0 0) [] := Own.ofRow (l := ([] : List Cpy)) cpyC_flat (Nat.le_refl _) (Blk.new w #[] _) (Nat.le_refl _) (by unfold maxLen; omega) rfl rfl
  have nx := bal (b0 w) (.cells #[] 92)
  have heq := Lib.run_eql_slice_nil (P := Tryz.prog) w 34 92 (some ⟨pb, po, ps⟩) l.length cap 0 0 elemCpy.under
  replace h0 := hid h0
  go_enter Tryz.func43, Tryz.ntmps43
  go_wp2_with (at_builtin; refine wpList_app rfl _ _ 34 rfl w.heap.size _ 2 24 cpyC_flat elemCpy h0.out rfl l (h.out.below nx) rfl (by simp; omega) (by simp; unfold maxLen; omega) (by simp) ?_; intro v1 w1 hown1 hg1; obtain ⟨a1, cap1, rfl⟩ := hown1.form; have nx2 := nx.trans (h0.out.belowGrown (by simp) hg1); simp only [List.nil_append, List.length_nil, Nat.zero_add] at hown1 nx2)
  go_ret
  exact ⟨_, rfl, hown1, nx2⟩
theorem slices_IndexI (l : List Int) (b : Int) (v : Value) (w : World) (h : RL intC w v l) (hl : l.length ≤ 17592186044160) :
    Calls Tryz.prog 163 #[v, .int .i64 b] w fun e w' => ∃ r : Int, e = .returned (.int .i64 r) ∧ (inI l b = decide (0 ≤ r)) ∧ w = w' := by
 obtain ⟨a, cap, rfl, _⟩ := h.form
 have hst := fun k (hk : k < l.length) => inI_step (l := l) (b := b) hk
 have hft := fun k (hk : ¬ k < l.length) => inI_full (l := l) (b := b) hk
 have hht := fun k (hk : k < l.length) (hb : l[k] = b) => inI_hit hk hb
 replace h := hid h; replace hst := hid hst; replace hft := hid hft; replace hht := hid hht
 go_enter Tryz.func163, Tryz.ntmps163
 go_wp2
 go_loop [8] (fun i => ∃ k : Nat, k ≤ l.length ∧ i = .int .i64 k ∧ Hid (inI (l.take k) b = false)) (fun i => l.length - (intOf i).toNat)
 case atStart => exact ⟨0, Nat.zero_le _, rfl, hid (by simp [inI])⟩
 case round =>
  obtain ⟨k, hk, rfl, hno⟩ := hrel
  by_cases hlt : k < l.length
  ·obtain ⟨b1, o1, rfl, c0⟩ := RL.at1 (fun x => .int .i64 x) (fun _ => rfl) h.out hlt
   by_cases hb : l[k] = b
   ·have hv := hid (hht.out k hlt hb)
    have e1 : (l[k] == b) = true := beq_iff_eq.2 hb
    have e2 : (b == l[k]) = true := beq_iff_eq.2 hb.symm
    clear hb
    generalize l[k] = x at *
    go_wp2
    go_ret
    exact ⟨_, rfl, by rw [hv.out]; exact (decide_eq_true (by omega)).symm, rfl⟩
   ·have hs := hst.out k hlt
    have e1 : (l[k] == b) = false := beq_eq_false_iff_ne.2 hb
    have e2 : (b == l[k]) = false := beq_eq_false_iff_ne.2 (fun x => hb x.symm)
    rw [e1, hno.out] at hs
    replace hs := hid hs
    clear hb
    generalize l[k] = x at *
    go_wp2
    go_round
    case rel => exact ⟨k + 1, by omega, by go_num, hs⟩
    case measure => simp [intOf]; omega
  ·have hv := hid (hft.out k hlt)
   obtain rfl : k = l.length := by omega
   rw [hno.out] at hv
   clear hno
   go_wp2
   go_ret
   exact ⟨_, rfl, by rw [← hv.out]; rfl, rfl⟩
theorem slices_ContainsI (l : List Int) (b : Int) (v : Value) (w : World) (h : RL intC w v l) (hl : l.length ≤ 17592186044160) :
    Calls Tryz.prog 125 #[v, .int .i64 b] w fun e w' => e = .returned (.bool (inI l b)) ∧ w = w' := by
 have hI := hid (slices_IndexI l b v w h hl)
 obtain ⟨a, cap, rfl, _⟩ := h.form
 clear h
 go_enter Tryz.func125, Tryz.ntmps125
 go_wp2_with (go_at_call 163; go_loud ((with_reducible refine hI.out.mono ?_); rintro e w1 ⟨r, rfl, hr, rfl⟩; replace hr := hid hr))
 go_ret
 exact ⟨ret_b hr.out.symm, rfl⟩
theorem txn_Change1 (x b : Int) (gb : Nat) (w : World) (hc : w.cell? ⟨gb, 0, none⟩ = some (.int .i64 b)) :
    Calls Tryz.prog 130 #[.int .i64 x, .pointer (some ⟨gb, 0, none⟩)] w fun e w' => e = .returned (.bool (x == b)) ∧ Below w.heap.size w w' := by
 by_cases hb : x = b
 ·have e1 : (x == b) = true := beq_iff_eq.2 hb
  rw [e1]
  subst hb
  go_enter Tryz.func130, Tryz.ntmps130
  go_wp2
  go_ret
  exact ⟨rfl, b0 w⟩
 ·have e1 : (x == b) = false := beq_eq_false_iff_ne.2 hb
  rw [e1]
  go_enter Tryz.func130, Tryz.ntmps130
  go_wp2
  go_ret
  exact ⟨rfl, b0 w⟩
theorem slices_IndexFuncI (l : List Int) (b : Int) (v : Value) (gb : Nat) (w : World) (h : RL intC w v l) (hc : w.cell? ⟨gb, 0, none⟩ = some (.int .i64 b)) (hl : l.length ≤ 17592186044160) :
    Calls Tryz.prog 164 #[v, .func (.func 130) #[] #[.pointer (some ⟨gb, 0, none⟩)]] w fun e w' => e = .returned (.int .i64 (idxK (fun x => x) l b)) ∧ Below w.heap.size w w' := by
 obtain ⟨a, cap, rfl, _⟩ := h.form
 have hit := hid (fun k (hk : k < l.length) (h1 : l[k] = b) h2 => idxK_hit (key := fun x => x) (b := b) hk h1 h2)
 have non := hid (fun h2 => idxK_none (key := fun x => x) (l := l) (b := b) h2)
 have hC := hid (fun x w hc => txn_Change1 x b gb w hc)
 generalize idxK (fun x => x) l b = r at *
 replace h := hid h; replace hc := hid hc
 go_enter Tryz.func164, Tryz.ntmps164
 go_wp2
 go_loopw [8] (fun i wr => ∃ k : Nat, k ≤ l.length ∧ i = .int .i64 k ∧ Below w.heap.size w wr ∧ Hid (∀ i (hi : i < l.length), i < k → ¬ l[i] = b)) (fun i _ => l.length - (intOf i).toNat)
 case atStart => exact ⟨0, Nat.zero_le _, rfl, b0 w, hid (fun i _ h => absurd h (Nat.not_lt_zero i))⟩
 case round =>
  obtain ⟨k, hk, rfl, nx, hno⟩ := hrel
  by_cases hlt : k < l.length
  ·obtain ⟨b1, o1, rfl, c0⟩ := RL.at1 (fun x => .int .i64 x) (fun _ => rfl) (h.out.below nx) hlt
   have hcw := hid (cell_below nx hc.out)
   by_cases hb : l[k] = b
   ·have hv := hid (hit.out k hlt hb (fun i hi => hno.out i (by omega) hi))
    have hCx := hC.out l[k] wr hcw.out
    have e1 : (l[k] == b) = true := beq_iff_eq.2 hb
    rw [e1] at hCx
    replace hCx := hid hCx
    clear hb e1 hno hit non
    generalize l[k] = x at *
    go_wp2_with (go_at_call 130; go_loud ((with_reducible refine hCx.out.mono ?_); rintro e w1 ⟨rfl, hb1⟩))
    go_ret
    exact ⟨ret_i hv.out.symm, bgo nx hb1⟩
   ·have hno2 : Hid (∀ i (hi : i < l.length), i < k + 1 → ¬ l[i] = b) := hid (fun i hi h2 => by
      by_cases e : i = k
      · subst e; exact hb
      · exact hno.out i hi (by omega))
    have hCx := hC.out l[k] wr hcw.out
    have e1 : (l[k] == b) = false := beq_eq_false_iff_ne.2 hb
    rw [e1] at hCx
    replace hCx := hid hCx
    clear hb e1 hno hit non
    generalize l[k] = x at *
    go_wp2_with (go_at_call 130; go_loud ((with_reducible refine hCx.out.mono ?_); rintro e w1 ⟨rfl, hb1⟩))
    go_roundw
    case rel => first | exact ⟨k + 1, by omega, by go_num, bgo nx hb1, hno2⟩ | ((repeat apply Exists.intro); exact ⟨⟨k + 1, by omega, by go_num, bgo nx hb1, hno2⟩, rfl⟩)
    case measure => simp [intOf]; omega
  ·obtain rfl : k = l.length := by omega
   have hv := hid (non.out (fun i hi => hno.out i hi hi))
   clear hno hit non
   go_wp2
   go_ret
   exact ⟨ret_i hv.out.symm, nx⟩
theorem txn_drop1 (x : Cpy) (b : Int) (gb : Nat) (w : World) (hc : w.cell? ⟨gb, 0, none⟩ = some (.int .i64 b)) :
    Calls Tryz.prog 167 #[.agg #[.int .i64 x.block, .string x.text], .pointer (some ⟨gb, 0, none⟩)] w fun e w' => e = .returned (.bool (x.block == b)) ∧ Below w.heap.size w w' := by
 obtain ⟨x, s⟩ := x
 have k0 := Blk.new w #[.int .i64 x, .string s] 92
 have c0 := k0.cell 0; have c1 := k0.cell 1
 have hc2 := cell_below (bal (b0 w) (.cells #[.int .i64 x, .string s] 92)) hc
 simp only [Zga, Zgb, Zgc] at c0 c1
 dsimp only
 by_cases hb : x = b
 ·have e1 : (x == b) = true := beq_iff_eq.2 hb
  rw [e1]
  subst hb
  go_enter Tryz.func167, Tryz.ntmps167
  go_wp2
  go_ret
  exact ⟨rfl, bal (b0 w) _⟩
 ·have e1 : (x == b) = false := beq_eq_false_iff_ne.2 hb
  rw [e1]
  go_enter Tryz.func167, Tryz.ntmps167
  go_wp2
  go_ret
  exact ⟨rfl, bal (b0 w) _⟩
theorem slices_IndexFuncC (l : List Cpy) (b : Int) (v : Value) (gb : Nat) (w : World) (h : RL cpyC w v l) (hc : w.cell? ⟨gb, 0, none⟩ = some (.int .i64 b)) (hl : l.length ≤ 5864062014805) :
    Calls Tryz.prog 182 #[v, .func (.func 167) #[] #[.pointer (some ⟨gb, 0, none⟩)]] w fun e w' => e = .returned (.int .i64 (idxK (fun x => x.block) l b)) ∧ Below w.heap.size w w' := by
 obtain ⟨a, cap, rfl, _⟩ := h.form
 have hit := hid (fun k (hk : k < l.length) (h1 : l[k].block = b) h2 => idxK_hit (key := fun x => x.block) (b := b) hk h1 h2)
 have non := hid (fun h2 => idxK_none (key := fun x => x.block) (l := l) (b := b) h2)
 have hC := hid (fun x w hc => txn_drop1 x b gb w hc)
 generalize idxK (fun x => x.block) l b = r at *
 replace h := hid h; replace hc := hid hc
 go_enter Tryz.func182, Tryz.ntmps182
 go_wp2
 go_loopw [8] (fun i wr => ∃ k : Nat, k ≤ l.length ∧ i = .int .i64 k ∧ Below w.heap.size w wr ∧ Hid (∀ i (hi : i < l.length), i < k → ¬ l[i].block = b)) (fun i _ => l.length - (intOf i).toNat)
 case atStart => exact ⟨0, Nat.zero_le _, rfl, b0 w, hid (fun i _ h => absurd h (Nat.not_lt_zero i))⟩
 case round =>
  obtain ⟨k, hk, rfl, nx, hno⟩ := hrel
  by_cases hlt : k < l.length
  ·obtain ⟨b1, o1, rfl, c0, c1⟩ := RL.at2 (fun x => .int .i64 x.block) (fun x => .string x.text) (fun _ => rfl) (h.out.below nx) hlt
   have hcw := hid (cell_below nx hc.out)
   by_cases hb : l[k].block = b
   ·have hv := hid (hit.out k hlt hb (fun i hi => hno.out i (by omega) hi))
    have hCx := hC.out l[k] wr hcw.out
    have e1 : (l[k].block == b) = true := beq_iff_eq.2 hb
    rw [e1] at hCx
    replace hCx := hid hCx
    clear hb e1 hno hit non
    generalize l[k] = x at *
    go_wp2_with (go_at_call 167; go_loud ((with_reducible refine hCx.out.mono ?_); rintro e w1 ⟨rfl, hb1⟩))
    go_ret
    exact ⟨ret_i hv.out.symm, bgo nx hb1⟩
   ·have hno2 : Hid (∀ i (hi : i < l.length), i < k + 1 → ¬ l[i].block = b) := hid (fun i hi h2 => by
      by_cases e : i = k
      · subst e; exact hb
      · exact hno.out i hi (by omega))
    have hCx := hC.out l[k] wr hcw.out
    have e1 : (l[k].block == b) = false := beq_eq_false_iff_ne.2 hb
    rw [e1] at hCx
    replace hCx := hid hCx
    clear hb e1 hno hit non
    generalize l[k] = x at *
    go_wp2_with (go_at_call 167; go_loud ((with_reducible refine hCx.out.mono ?_); rintro e w1 ⟨rfl, hb1⟩))
    go_roundw
    case rel => first | exact ⟨k + 1, by omega, by go_num, bgo nx hb1, hno2⟩ | ((repeat apply Exists.intro); exact ⟨⟨k + 1, by omega, by go_num, bgo nx hb1, hno2⟩, rfl⟩)
    case measure => simp [intOf]; omega
  ·obtain rfl : k = l.length := by omega
   have hv := hid (non.out (fun i hi => hno.out i hi hi))
   clear hno hit non
   go_wp2
   go_ret
   exact ⟨ret_i hv.out.symm, nx⟩
end Go.Proofs.YtjhmfljlclajnacGreatDoor
namespace Wb
open Go Go.RowKit
theorem rdS {w : World} {d : Dsk} {vs vw : Value} (h : RDisk w (.agg #[vs, vw]) d) : RL strC w vs d.safe := by
 obtain ⟨_, _, he, h1, _⟩ := h
 cases he
 exact h1
theorem rdW {w : World} {d : Dsk} {vs vw : Value} (h : RDisk w (.agg #[vs, vw]) d) : RL wrC w vw d.writes := by
 obtain ⟨_, _, he, _, h1, _⟩ := h
 cases he
 exact h1
end Wb
namespace Go.Proofs.YtjhmfljlclajnacGreatDoor
open Go.RowKit Wb
set_option maxRecDepth 100000
set_option maxHeartbeats 8000000
theorem jr_Disk {S : List Nat} {w0 w : World} {L : List Ent} {R : List Rd} {g : Nat} {j : Jn} {M : List Ent} {Rj : List Rd} (F : JF g j M Rj) (X : St S w0 w (M ++ L) (Rj ++ R)) :
    Calls Tryz.prog 15 #[.pointer (some ⟨g, 0, none⟩)] w fun e w' => ∃ a1 c1 a2 c2, e = .returned (.agg #[.slice a1 j.disk.safe.length c1, .slice a2 j.disk.writes.length c2]) ∧ St S w0 w' (M ++ L) (Rd.of wrC (.slice a2 j.disk.writes.length c2) j.disk.writes :: Rd.of strC (.slice a1 j.disk.safe.length c1) j.disk.safe :: (Rj ++ R)) := by
 obtain ⟨v, ds, fs, MD, MU, hm, rfl, rfl⟩ := F
 have hsz := hm.inv.sz hm.sz
 have hln := goodD_len hsz.dk
 rw [List.cons_append] at X ⊢
 have hDk := fun (w : World) (L2 : List Ent) (R2 : List Rd) (X : St S w0 w L2 (R2 ++ (jRds v j ds fs ++ R))) => X.jDisk hsz.dk (fun r hr => List.mem_append_right _ (List.mem_append_left _ hr))
 unfold jCells at X ⊢
 have hCs := fun v w h => clone_Strings j.disk.safe v w h (by have := hln.1; omega)
 have hCw := fun v w h => clone_Writes j.disk.writes v w h (by have := hln.2; omega)
 generalize jRds v j ds fs ++ R = RR at *
 generalize MD ++ MU ++ L = LL at *
 clear hln
 replace hCs := hid hCs; replace hCw := hid hCw; replace hDk := hid hDk
 go_enter Tryz.func15, Tryz.ntmps15
 go_upto_region 3 with (first
     | (refine ZeL ?_) | (refine ZeS ?_; clear X; intro w X) | (refine ZeA ?_; clear X; intro g w X))
 have X9 := X.perm (.swap _ _ _)
 clear X
 have X := X9
 clear X9
 (refine q_startS 1 [] [5, 11, 13] [4, 10] [0, 1, 2, 3, 4, 6, 7, 8, 9, 10, 5, 11, 12, 13] X ?_; clear X; intro hQ X hL; simp only [zF, zG] at hL; simp only [zF, zG])
 (refine Zm ?_)
 (refine Zn ?_)
 (refine Zf ?_)
 (refine Zf ?_)
 (refine Zl ?_)
 (refine Zm ?_)
 (refine Zn ?_)
 (refine Zf ?_)
 (refine Zf ?_)
 (refine Zl ?_)
 (refine q_callS 45 Tryz.func45 (hCs.out _ _ (rdS (hDk.out _ _ [] X))) ?_; rintro e w1 ⟨v1, rfl, ho1, hb1⟩; obtain ⟨a1, c1, rfl⟩ := ho1.form; replace X := X.addOwn hb1 ho1; clear hb1 ho1; refine Zce ?_; clear hL; intro hL)
 (refine q_callS 46 Tryz.func46 (hCw.out _ _ (rdW (hDk.out _ _ [_] X))) ?_; rintro e w2 ⟨v2, rfl, ho2, hb2⟩; obtain ⟨a2, c2, rfl⟩ := ho2.form; replace X := X.addOwn hb2 ho2; clear hb2 ho2; refine Zce ?_; clear hL; intro hL)
 (refine Zg ?_)
 (refine Zs ?_; clear hL X; intro w X hL)
 refine q_nil ?_
 go_wp2
 exact m_ret1 rfl (.tmp rfl rfl) X (.tail _ (.head _)) rfl rfl ⟨_, _, _, _, rfl, X.sub (List.Sublist.cons_cons _ (List.sublist_cons_self _ _))⟩
end Go.Proofs.YtjhmfljlclajnacGreatDoor
