/- Parts of the proof: JwI JwJ JnA JwK SeqV JnR JwL LRuns Disk8 Disk7 Disk9 Disk11 Crash. -/
import Derived.Test.YtjhmfljlclajnabGreatDoorKTopRuns5
import Derived.Test.YtjhmfljlclajnabGreatDoorKTopRuns6
import Derived.Test.YtjhmfljlclajnabGreatDoorKTopRuns7
import Derived.Test.YtjhmfljlclajnabGreatDoorKTopRuns2
import Derived.Test.YtjhmfljlclajnabGreatDoorKTopRuns3
import Derived.Test.YtjhmfljlclajnabGreatDoorKTopRuns4
import Derived.Test.YtjhmfljlclajnabGreatDoorKTopRuns0
import Derived.Test.YtjhmfljlclajnabGreatDoorURegCall
import Derived.Deep.RegionHeld3
import Derived.Deep.CutBlock
import Derived.Deep.DeepCutAuto
import Derived.Test.YtjhmfljlclajnabGreatDoorUPoke
import Derived.Test.YtjhmfljlclajnabGreatDoorKTopRuns1
import Derived.Test.YtjhmfljlclajnabGreatDoorUFit2
set_option linter.unusedVariables false
set_option linter.unusedSimpArgs false
namespace Wb
open Go Go.RowKit
theorem permJ {α : Type} (a b c : α) (D L : List α) : (a :: b :: c :: (D ++ L)).Perm (c :: (D ++ (a :: b :: L))) := by
  have h1 : (a :: b :: c :: (D ++ L)).Perm (c :: a :: b :: (D ++ L)) := (List.perm_append_comm (l₁ := [a, b]) (l₂ := [c])).append_right _
  exact h1.trans ((List.perm_append_comm_assoc [a, b] D L).cons c)
theorem permB {α : Type} (a b : α) (M L : List α) : (M ++ (a :: b :: L)).Perm (a :: b :: (M ++ L)) := (List.perm_append_comm_assoc [a, b] M L).symm
theorem JFm.acts {Tt Ti : TypeId} {v : JV} {j : Jn} {ds fs : List TV} {MD MU : List Ent} (h : JFm Tt Ti v j ds fs MD MU) (n : Int) : JFm Tt Ti v { j with acts := n } ds fs MD MU := ⟨h.dn, h.us, h.dmap, h.fmap, h.dfit, h.ffit, h.inv.acts n, h.sz⟩
end Wb
namespace Go.Proofs.YtjhmfljlclajnabGreatDoor
open Go.RowKit Wb
set_option maxRecDepth 100000
set_option maxHeartbeats 16000000
theorem jr_noD (c : Int) (w : World) :
    Calls Tryz.prog 17 #[.int .i64 c] w fun e w' => e = .returned (.agg #[.int .i64 c, .int .i64 0, .string ⟨#[]⟩]) ∧ Below w.heap.size w w' := by
  have X : St [] w w [] [] := St.start [] w
  go_enter Tryz.func17, Tryz.ntmps17
  go_wp2_with (first
    | (refine ZyL ?_) | (refine ZyS ?_; clear X; intro w X) | (refine ZyA ?_; clear X; intro g w X))
  exact m_ret1 rfl (.tmp rfl rfl) X (.head _) rfl rfl ⟨rfl, X.below⟩
theorem jr_Do (K : JK) {S : List Nat} {w0 w : World} {L : List Ent} {R : List Rd} {gj : Nat} {j : Jn} {M : List Ent} {Rj : List Rd} (F : JF gj j M Rj) (X : St S w0 w (M ++ L) (Rj ++ R)) (hF : flR 0 ∈ R) (a : Aj) (hs : a.text.size ≤ 9223372036854775807) (hn : a.n ≤ 9223372036854775807) (ha : 0 ≤ j.acts) :
    Calls Tryz.prog 11 #[.pointer (some ⟨gj, 0, none⟩), .agg #[.int .i64 a.kind, .int .i64 a.h, .int .i64 a.b, .int .i64 a.n, .string a.text]] w fun e w' => ∃ M' Rj', e = .returned (doJ j a).2.val ∧ JF gj (doJ j a).1 M' Rj' ∧ St S w0 w' (M' ++ L) (Rj' ++ R) := by
  obtain ⟨v, ds, fs, MD, MU, hm, rfl, rfl⟩ := F
  rw [List.cons_append] at X
  unfold jCells at X
  have hNo := fun c w => jr_noD c w
  replace hNo := hid hNo
  by_cases h4 : 400 ≤ j.acts
  · have hD : doJ j a = (j, noR 11) := by unfold doJ; rw [if_pos h4]
    replace hD := hid hD; replace hm := hid hm
    go_enter Tryz.func11, Tryz.ntmps11
    go_upto_region 1 with (first
      | (refine Zbx ?_; clear X; intro g w X)
      | (refine ZyL ?_) | (refine ZyS ?_; clear X; intro w X) | (refine ZyA ?_; clear X; intro g w X))
    go_wp2_with (first
      | (refine ZyL ?_) | (refine ZyS ?_; clear X; intro w X) | (refine ZyA ?_; clear X; intro g w X)
      | (go_at_call 17; go_loud ((with_reducible refine (hNo.out _ _).mono ?_); rintro e w1 ⟨rfl, hb1⟩; replace X := X.call hb1; clear hb1)))
    refine m_ret1 rfl (.tmp rfl rfl) X (.head _) rfl rfl ?_
    rw [hD.out]
    first
      | exact ⟨_, _, rfl, ⟨v, ds, fs, MD, MU, hm.out, rfl, rfl⟩, X.sub (List.Sublist.cons _ (List.sublist_cons_self _ _))⟩
      | exact ⟨rfl, _, _, ⟨v, ds, fs, MD, MU, hm.out, rfl, rfl⟩, X.sub (List.Sublist.cons _ (List.sublist_cons_self _ _))⟩
  · have hw4 : IntKind.i64.wrap (j.acts + 1) = j.acts + 1 := IntWalk.i64_in _ (by omega)
    have hm1 := hm.acts (j.acts + 1)
    replace hm := hid hm; replace hm1 := hid hm1
    have F1 : JF gj { j with acts := j.acts + 1 } (⟨gj, jCells v { j with acts := j.acts + 1 }, 61⟩ :: (MD ++ MU)) (jRds v { j with acts := j.acts + 1 } ds fs) := ⟨v, ds, fs, MD, MU, hm1.out, rfl, rfl⟩
    replace F1 := hid F1
    by_cases hlo : a.kind < 1
    · have hD : doJ j a = ({ j with acts := j.acts + 1 }, noR 3) := by unfold doJ; rw [if_neg h4, if_pos (.inl hlo)]
      replace hD := hid hD
      go_enter Tryz.func11, Tryz.ntmps11
      go_upto_region 1 with (first
        | (refine Zbx ?_; clear X; intro g w X)
        | (refine ZyL ?_) | (refine ZyS ?_; clear X; intro w X) | (refine ZyA ?_; clear X; intro g w X))
      go_wp2_with (first
        | (refine ZyL ?_) | (refine ZyS ?_; clear X; intro w X) | (refine ZyA ?_; clear X; intro g w X)
        | (go_at_call 17; go_loud ((with_reducible refine (hNo.out _ _).mono ?_); rintro e w1 ⟨rfl, hb1⟩; replace X := X.call hb1; clear hb1)))
      refine m_ret1 rfl (.tmp rfl rfl) X (.head _) rfl rfl ?_
      rw [hD.out]
      first
        | exact ⟨_, _, rfl, F1.out, X.sub (List.Sublist.cons _ (List.sublist_cons_self _ _))⟩
        | exact ⟨rfl, _, _, F1.out, X.sub (List.Sublist.cons _ (List.sublist_cons_self _ _))⟩
    by_cases hhi : 11 < a.kind
    · have hD : doJ j a = ({ j with acts := j.acts + 1 }, noR 3) := by unfold doJ; rw [if_neg h4, if_pos (.inr hhi)]
      replace hD := hid hD
      go_enter Tryz.func11, Tryz.ntmps11
      go_upto_region 1 with (first
        | (refine Zbx ?_; clear X; intro g w X)
        | (refine ZyL ?_) | (refine ZyS ?_; clear X; intro w X) | (refine ZyA ?_; clear X; intro g w X))
      go_wp2_with (first
        | (refine ZyL ?_) | (refine ZyS ?_; clear X; intro w X) | (refine ZyA ?_; clear X; intro g w X)
        | (go_at_call 17; go_loud ((with_reducible refine (hNo.out _ _).mono ?_); rintro e w1 ⟨rfl, hb1⟩; replace X := X.call hb1; clear hb1)))
      refine m_ret1 rfl (.tmp rfl rfl) X (.head _) rfl rfl ?_
      rw [hD.out]
      first
        | exact ⟨_, _, rfl, F1.out, X.sub (List.Sublist.cons _ (List.sublist_cons_self _ _))⟩
        | exact ⟨rfl, _, _, F1.out, X.sub (List.Sublist.cons _ (List.sublist_cons_self _ _))⟩
    have hkk : ¬ (a.kind < 1 ∨ 11 < a.kind) := by omega
    by_cases k10 : a.kind = 10
    · have hD : doJ j a = noJ (crashJ { j with acts := j.acts + 1 } a.n) := by unfold doJ; rw [if_neg h4, if_neg hkk, if_pos k10]
      replace hD := hid hD
      have f10 : (a.kind == 10) = true := by rw [k10]; rfl
      go_enter Tryz.func11, Tryz.ntmps11
      go_upto_region 1 with (first
        | (refine Zbx ?_; clear X; intro g w X)
        | (refine ZyL ?_) | (refine ZyS ?_; clear X; intro w X) | (refine ZyA ?_; clear X; intro g w X))
      go_upto_region 10 with (first
        | (refine ZyL ?_) | (refine ZyS ?_; clear X; intro w X) | (refine ZyA ?_; clear X; intro g w X))
      have hC := hid (jr_crash K F1.out (X.perm (permJ _ _ _ _ _)) a.n hn)
      go_wp2_with (first
        | (refine ZyL ?_) | (refine ZyS ?_; clear X; intro w X) | (refine ZyA ?_; clear X; intro g w X)
        | (go_at_call 18; go_loud ((with_reducible refine (hC.out).mono ?_); rintro e w1 ⟨M2, R2, rfl, F2, X2⟩; replace X := X2.perm (permB _ _ _ _); clear X2))
        | (go_at_call 17; go_loud ((with_reducible refine (hNo.out _ _).mono ?_); rintro e w1 ⟨rfl, hb1⟩; replace X := X.call hb1; clear hb1)))
      refine m_ret1 rfl (.tmp rfl rfl) X (.head _) rfl rfl ?_
      rw [hD.out]
      first
        | exact ⟨_, _, rfl, F2, X.sub (List.Sublist.cons _ (List.sublist_cons_self _ _))⟩
        | exact ⟨rfl, _, _, F2, X.sub (List.Sublist.cons _ (List.sublist_cons_self _ _))⟩
    by_cases k11 : a.kind = 11
    · have hD : doJ j a = noJ (beginJ { j with acts := j.acts + 1 }) := by unfold doJ; rw [if_neg h4, if_neg hkk, if_neg k10, if_pos k11]
      replace hD := hid hD
      have f10 : (a.kind == 10) = false := beq_eq_false_iff_ne.2 k10
      have f11 : (a.kind == 11) = true := by rw [k11]; rfl
      go_enter Tryz.func11, Tryz.ntmps11
      go_upto_region 1 with (first
        | (refine Zbx ?_; clear X; intro g w X)
        | (refine ZyL ?_) | (refine ZyS ?_; clear X; intro w X) | (refine ZyA ?_; clear X; intro g w X))
      go_upto_region 12 with (first
        | (refine ZyL ?_) | (refine ZyS ?_; clear X; intro w X) | (refine ZyA ?_; clear X; intro g w X))
      have hC := hid (jr_begin K F1.out (X.perm (permJ _ _ _ _ _)) hF)
      go_wp2_with (first
        | (refine ZyL ?_) | (refine ZyS ?_; clear X; intro w X) | (refine ZyA ?_; clear X; intro g w X)
        | (go_at_call 19; go_loud ((with_reducible refine (hC.out).mono ?_); rintro e w1 ⟨M2, R2, rfl, F2, X2⟩; replace X := X2.perm (permB _ _ _ _); clear X2))
        | (go_at_call 17; go_loud ((with_reducible refine (hNo.out _ _).mono ?_); rintro e w1 ⟨rfl, hb1⟩; replace X := X.call hb1; clear hb1)))
      refine m_ret1 rfl (.tmp rfl rfl) X (.head _) rfl rfl ?_
      rw [hD.out]
      first
        | exact ⟨_, _, rfl, F2, X.sub (List.Sublist.cons _ (List.sublist_cons_self _ _))⟩
        | exact ⟨rfl, _, _, F2, X.sub (List.Sublist.cons _ (List.sublist_cons_self _ _))⟩
    by_cases k8 : a.kind = 8
    · have hD : doJ j a = stepJ { j with acts := j.acts + 1 } := by unfold doJ; rw [if_neg h4, if_neg hkk, if_neg k10, if_neg k11, if_pos k8]
      replace hD := hid hD
      have f10 : (a.kind == 10) = false := beq_eq_false_iff_ne.2 k10
      have f11 : (a.kind == 11) = false := beq_eq_false_iff_ne.2 k11
      have f8 : (a.kind == 8) = true := by rw [k8]; rfl
      go_enter Tryz.func11, Tryz.ntmps11
      go_upto_region 1 with (first
        | (refine Zbx ?_; clear X; intro g w X)
        | (refine ZyL ?_) | (refine ZyS ?_; clear X; intro w X) | (refine ZyA ?_; clear X; intro g w X))
      go_upto_region 14 with (first
        | (refine ZyL ?_) | (refine ZyS ?_; clear X; intro w X) | (refine ZyA ?_; clear X; intro g w X))
      have hC := hid (jr_step K F1.out (X.perm (permJ _ _ _ _ _)))
      go_wp2_with (first
        | (refine ZyL ?_) | (refine ZyS ?_; clear X; intro w X) | (refine ZyA ?_; clear X; intro g w X)
        | (go_at_call 20; go_loud ((with_reducible refine (hC.out).mono ?_); rintro e w1 ⟨M2, R2, rfl, F2, X2⟩; replace X := X2.perm (permB _ _ _ _); clear X2)))
      refine m_ret1 rfl (.tmp rfl rfl) X (.head _) rfl rfl ?_
      rw [hD.out]
      first
        | exact ⟨_, _, rfl, F2, X.sub (List.Sublist.cons _ (List.sublist_cons_self _ _))⟩
        | exact ⟨rfl, _, _, F2, X.sub (List.Sublist.cons _ (List.sublist_cons_self _ _))⟩
    by_cases hd : j.down = true
    · have hD : doJ j a = ({ j with acts := j.acts + 1 }, noR 10) := by unfold doJ; rw [if_neg h4, if_neg hkk, if_neg k10, if_neg k11, if_neg k8, if_pos hd]
      replace hD := hid hD
      have f10 : (a.kind == 10) = false := beq_eq_false_iff_ne.2 k10
      have f11 : (a.kind == 11) = false := beq_eq_false_iff_ne.2 k11
      have f8 : (a.kind == 8) = false := beq_eq_false_iff_ne.2 k8
      obtain ⟨jx1, jx2, jx3, jx4, jx5, jx6, jx7, jx8, jx9, jx10, jx11, jx12, jx13, jx14, jx15, jx16⟩ := j
      dsimp only at hd X
      subst hd
      go_enter Tryz.func11, Tryz.ntmps11
      go_upto_region 1 with (first
        | (refine Zbx ?_; clear X; intro g w X)
        | (refine ZyL ?_) | (refine ZyS ?_; clear X; intro w X) | (refine ZyA ?_; clear X; intro g w X))
      go_wp2_with (first
        | (refine ZyL ?_) | (refine ZyS ?_; clear X; intro w X) | (refine ZyA ?_; clear X; intro g w X)
        | (go_at_call 17; go_loud ((with_reducible refine (hNo.out _ _).mono ?_); rintro e w1 ⟨rfl, hb1⟩; replace X := X.call hb1; clear hb1)))
      refine m_ret1 rfl (.tmp rfl rfl) X (.head _) rfl rfl ?_
      rw [hD.out]
      first
        | exact ⟨_, _, rfl, F1.out, X.sub (List.Sublist.cons _ (List.sublist_cons_self _ _))⟩
        | exact ⟨rfl, _, _, F1.out, X.sub (List.Sublist.cons _ (List.sublist_cons_self _ _))⟩
    have hdf : j.down = false := by simpa using hd
    by_cases k6 : a.kind = 6
    · have hD : doJ j a = commitJ { j with acts := j.acts + 1 } := by unfold doJ; rw [if_neg h4, if_neg hkk, if_neg k10, if_neg k11, if_neg k8, if_neg hd, if_pos k6]
      replace hD := hid hD
      have f10 : (a.kind == 10) = false := beq_eq_false_iff_ne.2 k10
      have f11 : (a.kind == 11) = false := beq_eq_false_iff_ne.2 k11
      have f8 : (a.kind == 8) = false := beq_eq_false_iff_ne.2 k8
      have f6 : (a.kind == 6) = true := by rw [k6]; rfl
      obtain ⟨jx1, jx2, jx3, jx4, jx5, jx6, jx7, jx8, jx9, jx10, jx11, jx12, jx13, jx14, jx15, jx16⟩ := j
      dsimp only at hdf X
      subst hdf
      go_enter Tryz.func11, Tryz.ntmps11
      go_upto_region 1 with (first
        | (refine Zbx ?_; clear X; intro g w X)
        | (refine ZyL ?_) | (refine ZyS ?_; clear X; intro w X) | (refine ZyA ?_; clear X; intro g w X))
      go_upto_region 19 with (first
        | (refine ZyL ?_) | (refine ZyS ?_; clear X; intro w X) | (refine ZyA ?_; clear X; intro g w X))
      have hC := hid (jr_commit K F1.out (X.perm (permJ _ _ _ _ _)) hF rfl)
      go_wp2_with (first
        | (refine ZyL ?_) | (refine ZyS ?_; clear X; intro w X) | (refine ZyA ?_; clear X; intro g w X)
        | (go_at_call 21; go_loud ((with_reducible refine (hC.out).mono ?_); rintro e w1 ⟨M2, R2, rfl, F2, X2⟩; replace X := X2.perm (permB _ _ _ _); clear X2)))
      refine m_ret1 rfl (.tmp rfl rfl) X (.head _) rfl rfl ?_
      rw [hD.out]
      first
        | exact ⟨_, _, rfl, F2, X.sub (List.Sublist.cons _ (List.sublist_cons_self _ _))⟩
        | exact ⟨rfl, _, _, F2, X.sub (List.Sublist.cons _ (List.sublist_cons_self _ _))⟩
    by_cases k7 : a.kind = 7
    · have hD : doJ j a = noJ (checkJ { j with acts := j.acts + 1 }) := by unfold doJ; rw [if_neg h4, if_neg hkk, if_neg k10, if_neg k11, if_neg k8, if_neg hd, if_neg k6, if_pos k7]
      replace hD := hid hD
      have f10 : (a.kind == 10) = false := beq_eq_false_iff_ne.2 k10
      have f11 : (a.kind == 11) = false := beq_eq_false_iff_ne.2 k11
      have f8 : (a.kind == 8) = false := beq_eq_false_iff_ne.2 k8
      have f6 : (a.kind == 6) = false := beq_eq_false_iff_ne.2 k6
      have f7 : (a.kind == 7) = true := by rw [k7]; rfl
      obtain ⟨jx1, jx2, jx3, jx4, jx5, jx6, jx7, jx8, jx9, jx10, jx11, jx12, jx13, jx14, jx15, jx16⟩ := j
      dsimp only at hdf X
      subst hdf
      go_enter Tryz.func11, Tryz.ntmps11
      go_upto_region 1 with (first
        | (refine Zbx ?_; clear X; intro g w X)
        | (refine ZyL ?_) | (refine ZyS ?_; clear X; intro w X) | (refine ZyA ?_; clear X; intro g w X))
      go_upto_region 21 with (first
        | (refine ZyL ?_) | (refine ZyS ?_; clear X; intro w X) | (refine ZyA ?_; clear X; intro g w X))
      have hC := hid (jr_check K F1.out (X.perm (permJ _ _ _ _ _)) hF)
      go_wp2_with (first
        | (refine ZyL ?_) | (refine ZyS ?_; clear X; intro w X) | (refine ZyA ?_; clear X; intro g w X)
        | (go_at_call 22; go_loud ((with_reducible refine (hC.out).mono ?_); rintro e w1 ⟨M2, R2, rfl, F2, X2⟩; replace X := X2.perm (permB _ _ _ _); clear X2))
        | (go_at_call 17; go_loud ((with_reducible refine (hNo.out _ _).mono ?_); rintro e w1 ⟨rfl, hb1⟩; replace X := X.call hb1; clear hb1)))
      refine m_ret1 rfl (.tmp rfl rfl) X (.head _) rfl rfl ?_
      rw [hD.out]
      first
        | exact ⟨_, _, rfl, F2, X.sub (List.Sublist.cons _ (List.sublist_cons_self _ _))⟩
        | exact ⟨rfl, _, _, F2, X.sub (List.Sublist.cons _ (List.sublist_cons_self _ _))⟩
    by_cases k9 : a.kind = 9
    · have hD : doJ j a = ({ j with acts := j.acts + 1 }, readJ { j with acts := j.acts + 1 } a.b) := by unfold doJ; rw [if_neg h4, if_neg hkk, if_neg k10, if_neg k11, if_neg k8, if_neg hd, if_neg k6, if_neg k7, if_pos k9]
      replace hD := hid hD
      have f10 : (a.kind == 10) = false := beq_eq_false_iff_ne.2 k10
      have f11 : (a.kind == 11) = false := beq_eq_false_iff_ne.2 k11
      have f8 : (a.kind == 8) = false := beq_eq_false_iff_ne.2 k8
      have f6 : (a.kind == 6) = false := beq_eq_false_iff_ne.2 k6
      have f7 : (a.kind == 7) = false := beq_eq_false_iff_ne.2 k7
      have f9 : (a.kind == 9) = true := by rw [k9]; rfl
      obtain ⟨jx1, jx2, jx3, jx4, jx5, jx6, jx7, jx8, jx9, jx10, jx11, jx12, jx13, jx14, jx15, jx16⟩ := j
      dsimp only at hdf X
      subst hdf
      go_enter Tryz.func11, Tryz.ntmps11
      go_upto_region 1 with (first
        | (refine Zbx ?_; clear X; intro g w X)
        | (refine ZyL ?_) | (refine ZyS ?_; clear X; intro w X) | (refine ZyA ?_; clear X; intro g w X))
      go_upto_region 23 with (first
        | (refine ZyL ?_) | (refine ZyS ?_; clear X; intro w X) | (refine ZyA ?_; clear X; intro g w X))
      have hC := hid (jr_read K F1.out (X.perm (permJ _ _ _ _ _)) a.b)
      go_wp2_with (first
        | (refine ZyL ?_) | (refine ZyS ?_; clear X; intro w X) | (refine ZyA ?_; clear X; intro g w X)
        | (go_at_call 23; go_loud ((with_reducible refine (hC.out).mono ?_); rintro e w1 ⟨M2, R2, rfl, F2, X2⟩; replace X := X2.perm (permB _ _ _ _); clear X2)))
      refine m_ret1 rfl (.tmp rfl rfl) X (.head _) rfl rfl ?_
      rw [hD.out]
      first
        | exact ⟨_, _, rfl, F2, X.sub (List.Sublist.cons _ (List.sublist_cons_self _ _))⟩
        | exact ⟨rfl, _, _, F2, X.sub (List.Sublist.cons _ (List.sublist_cons_self _ _))⟩
    have hD : doJ j a = noJ (changeJ { j with acts := j.acts + 1 } a) := by unfold doJ; rw [if_neg h4, if_neg hkk, if_neg k10, if_neg k11, if_neg k8, if_neg hd, if_neg k6, if_neg k7, if_neg k9]
    replace hD := hid hD
    have f10 : (a.kind == 10) = false := beq_eq_false_iff_ne.2 k10
    have f11 : (a.kind == 11) = false := beq_eq_false_iff_ne.2 k11
    have f8 : (a.kind == 8) = false := beq_eq_false_iff_ne.2 k8
    have f6 : (a.kind == 6) = false := beq_eq_false_iff_ne.2 k6
    have f7 : (a.kind == 7) = false := beq_eq_false_iff_ne.2 k7
    have f9 : (a.kind == 9) = false := beq_eq_false_iff_ne.2 k9
    obtain ⟨jx1, jx2, jx3, jx4, jx5, jx6, jx7, jx8, jx9, jx10, jx11, jx12, jx13, jx14, jx15, jx16⟩ := j
    dsimp only at hdf X
    subst hdf
    go_enter Tryz.func11, Tryz.ntmps11
    go_upto_region 1 with (first
      | (refine Zbx ?_; clear X; intro g w X)
      | (refine ZyL ?_) | (refine ZyS ?_; clear X; intro w X) | (refine ZyA ?_; clear X; intro g w X))
    go_upto_region 24 with (first
      | (refine ZyL ?_) | (refine ZyS ?_; clear X; intro w X) | (refine ZyA ?_; clear X; intro g w X))
    have hC := hid (jr_change K F1.out (X.perm (permJ _ _ _ _ _)) a hs (by omega) rfl)
    go_wp2_with (first
      | (refine ZyL ?_) | (refine ZyS ?_; clear X; intro w X) | (refine ZyA ?_; clear X; intro g w X)
      | (go_at_call 24; go_loud ((with_reducible refine (hC.out).mono ?_); rintro e w1 ⟨M2, R2, rfl, F2, X2⟩; replace X := X2.perm (permB _ _ _ _); clear X2))
      | (go_at_call 17; go_loud ((with_reducible refine (hNo.out _ _).mono ?_); rintro e w1 ⟨rfl, hb1⟩; replace X := X.call hb1; clear hb1)))
    refine m_ret1 rfl (.tmp rfl rfl) X (.head _) rfl rfl ?_
    rw [hD.out]
    first
      | exact ⟨_, _, rfl, F2, X.sub (List.Sublist.cons _ (List.sublist_cons_self _ _))⟩
      | exact ⟨rfl, _, _, F2, X.sub (List.Sublist.cons _ (List.sublist_cons_self _ _))⟩
theorem mem2J {α : Type} {a b r : α} {R : List α} (h : r ∈ [a, b]) : r ∈ a :: b :: R := by
  rcases List.mem_cons.1 h with rfl | h
  · exact .head _
  · rcases List.mem_singleton.1 h with rfl; exact .tail _ (.head _)
theorem rdisk0 {w : World} {a1 : Option Addr} {c1 : Nat} (h1 : RL strC w (.slice a1 newDsk0.safe.length c1) newDsk0.safe) : RDisk w (.agg #[.slice a1 newDsk0.safe.length c1, .slice none 0 0]) newDsk0 := ⟨_, _, rfl, h1, RL.nil _ _, by decide, by decide⟩
theorem jr_New (K : JK) {S : List Nat} {w0 w : World} {L : List Ent} {R : List Rd} (X : St S w0 w L R) :
    Calls Tryz.prog 10 #[] w fun e w' => ∃ g M Rj, e = .returned (.pointer (some ⟨g, 0, none⟩)) ∧ JF g newJ M Rj ∧ St S w0 w' (M ++ L) (Rj ++ R) := by
  have hNw := fun w => K.dnew w
  have hEn := fun w => K.enc (superM 1 0) (.agg #[.int .i64 1, .int .i64 1, .int .i64 0, .slice none 0 0, .slice none 0 0]) w ⟨_, _, rfl, RL.nil _ _, RL.nil _ _, by decide, by decide⟩
  have hPu := fun v w (h : RDisk w v newDsk0) => K.put newDsk0 0 (markS (superM 1 0)) v w h
  have hFl := fun v w (h : RDisk w v (putD newDsk0 0 (markS (superM 1 0)))) => K.flush (putD newDsk0 0 (markS (superM 1 0))) v w h
  have hD : flushD (putD newDsk0 0 (markS (superM 1 0))) = newDsk := rfl
  have hI := inv_new
  have hg0 : goodD newDsk0 = true := by
    refine (goodD_iff _).2 ⟨by simp [newDsk0], by decide, ?_, rfl⟩
    rw [List.all_eq_true]
    intro s hs
    rw [List.eq_of_mem_replicate hs]
    unfold ok32
    rw [fit_size]; rfl
  have hm := dec_mark (super_good (q := 1) (a := 0) (by decide) (by decide))
  have hp : putE newDsk0 0 (markS (superM 1 0)) = 0 := putE_one hg0 (by decide) hm.2.2 (by decide)
  have hg1 := put_good hp
  rw [hD] at hFl
  have hD0 : newDsk0.safe = List.replicate 37 (fit ⟨#[]⟩) := rfl
  rw [← hD0] at hNw
  generalize markE (superM 1 0) = mE at *
  generalize markS (superM 1 0) = mS at *
  generalize putE newDsk0 0 mS = pE at *
  generalize putD newDsk0 0 mS = D1 at *
  generalize flushE D1 = fE at *
  have hJ : newJ = { zeroJ newDsk 0 0 with now := txn0 1 } := rfl
  clear hD hm hp hD0 hg0
  replace hNw := hid hNw; replace hEn := hid hEn; replace hPu := hid hPu; replace hFl := hid hFl; replace hI := hid hI
  go_enter Tryz.func10, Tryz.ntmps10
  go_wp2_with (first
    | (refine Zbx ?_; clear X; intro g w X)
    | (refine ZyL ?_) | (refine ZyS ?_; clear X; intro w X) | (refine ZyA ?_; clear X; intro g w X)
    | (go_at_call 13; go_loud ((with_reducible refine (hNw.out _).mono ?_); rintro e w1 ⟨vs, rfl, ho1, hb1⟩; obtain ⟨a1, c1, rfl⟩ := ho1.form; replace X := (X.addOwn hb1 (ho1.mono (by omega))).addNil; clear hb1 ho1))
    | (go_at_call 14; go_loud ((with_reducible refine (hEn.out _).mono ?_); rintro e w1 ⟨rfl, hb1⟩; replace X := X.call hb1; clear hb1))
    | (go_at_call 15; go_loud ((with_reducible refine (hPu.out _ _ (rdisk0 (X.read (List.Mem.tail _ (List.Mem.head _))))).mono ?_); rintro e w1 ⟨v1, rfl, hr1, hn1, hb1⟩; obtain ⟨as2, cs2, aw2, cw2, rfl, X2⟩ := X.addNewD (as_ := a1) (cs := c1) (aw := none) (cw := 0) hb1 hn1 (fun r hr => by simp only [dskR, List.mem_cons, List.not_mem_nil, or_false] at hr; rcases hr with rfl | rfl; exact .tail _ (.head _); exact .head _); replace X := X2; clear X2 hb1 hn1 hr1))
    | (go_at_call 16; go_loud ((with_reducible refine (hFl.out _ _ (X.dsk (goodD_len hg1).1 (goodD_len hg1).2)).mono ?_); rintro e w1 ⟨v1, rfl, hr1, hn1, hb1⟩; obtain ⟨as3, cs3, aw3, cw3, rfl, X2⟩ := X.addNewD hb1 hn1 (fun r hr => mem2J hr); replace X := X2; clear X2 hb1 hn1 hr1)))
  go_ret
  refine ⟨_, _, _, rfl, ⟨zeroV ⟨as3, cs3⟩ ⟨aw3, cw3⟩, [], [], [], [], ⟨.nil _ _ _, .nil _ _ _, rfl, rfl, (fun x hx => by cases hx), (fun x hx => by cases hx), hI.out, ⟨Nat.zero_le _, Nat.zero_le _⟩⟩, rfl, rfl⟩, ?_⟩
  exact X.jZero rfl rfl rfl rfl (List.Sublist.refl _) (fun r hr => .tail _ (.tail _ (.tail _ (.tail _ hr))))
end Go.Proofs.YtjhmfljlclajnabGreatDoor
namespace Wb
open Go Go.RowKit
def alA : Aj := ⟨1, 0, 0, 2, ⟨#[]⟩⟩
def alB : Aj := ⟨2, 0, 3, 0, ⟨#[120]⟩⟩
def alC : Aj := ⟨9, 0, 3, 0, ⟨#[]⟩⟩
def alD : Aj := ⟨6, 0, 0, 0, ⟨#[]⟩⟩
def alJ1 : Jn := (doJ newJ alA).1
def alJ2 : Jn := (doJ alJ1 alB).1
def alJ3 : Jn := (doJ alJ2 alC).1
theorem al_A : (doJ newJ alA).2.code = 0 := by decide +kernel
theorem al_B : (doJ alJ1 alB).2.code = 0 := by decide +kernel
theorem al_Cn : (doJ alJ2 alC).2.n = 1 := by decide +kernel
theorem al_Ct : (doJ alJ2 alC).2.text = fit ⟨#[120]⟩ := by rfl
theorem al_D : (doJ alJ3 alD).2.code = 9 := by decide +kernel
variable {S : List Nat} {w0 w : World} {L : List Ent} {R R2 : List Rd}
theorem St.lessR (X : St S w0 w L (R2 ++ R)) : St S w0 w L R := ⟨X.mv, X.nd, X.blk, X.own, fun r hr => X.rd r (List.mem_append_right _ hr)⟩
theorem perm1J {α : Type} (a : α) (M L : List α) : (a :: (M ++ L)).Perm (M ++ (a :: L)) := List.perm_append_comm_assoc [a] M L
theorem perm2J {α : Type} (a b : α) (M L : List α) : (a :: b :: (M ++ L)).Perm (M ++ (a :: b :: L)) := List.perm_append_comm_assoc [a, b] M L
theorem perm3J {α : Type} (a b c : α) (M L : List α) : (a :: b :: c :: (M ++ L)).Perm (M ++ (a :: b :: c :: L)) := List.perm_append_comm_assoc [a, b, c] M L
theorem rep_code {r : Rep} {c : Int} (h : r.code = c) : r = ⟨c, r.n, r.text⟩ := by cases r; cases h; rfl
theorem rep_nt {r : Rep} {n : Int} {t : ByteArray} (h : r.n = n) (h2 : r.text = t) : r = ⟨r.code, n, t⟩ := by cases r; cases h; cases h2; rfl
theorem acts_ge {j : Jn} (a : Aj) (h : 0 ≤ j.acts) : 0 ≤ (doJ j a).1.acts := by
  rw [acts_do]; split <;> omega
theorem new_acts : 0 ≤ newJ.acts := by decide
end Wb
namespace Go.Proofs.YtjhmfljlclajnabGreatDoor
open Go.RowKit Wb
set_option maxRecDepth 100000
set_option maxHeartbeats 16000000
theorem jr_DoA (K : JK) {S : List Nat} {w0 w : World} {L : List Ent} {R : List Rd} {gj : Nat} {j : Jn} {M : List Ent} {Rj : List Rd} (F : JF gj j M Rj) (X : St S w0 w (M ++ L) (Rj ++ R)) (hF : flR 0 ∈ R) (a : Aj) (hs : a.text.size ≤ 9223372036854775807) (hn : a.n ≤ 9223372036854775807) (ha : 0 ≤ j.acts) (vs : List Value) (hv : ajC a = vs) {c n : Int} {t : ByteArray} (hr : (doJ j a).2 = ⟨c, n, t⟩) :
    Calls Tryz.prog 11 #[.pointer (some ⟨gj, 0, none⟩), .agg vs.toArray] w fun e w' => ∃ M' Rj', e = .returned (.agg #[.int .i64 c, .int .i64 n, .string t]) ∧ JF gj (doJ j a).1 M' Rj' ∧ St S w0 w' (M' ++ L) (Rj' ++ R) := by
  subst hv
  refine (jr_Do K F X hF a hs hn ha).mono ?_
  rintro e w' ⟨M', Rj', rfl, hJ, hX⟩
  exact ⟨M', Rj', by rw [hr]; rfl, hJ, hX⟩
theorem jr_alive (K : JK) {S : List Nat} {w0 w : World} {L : List Ent} {R : List Rd} (X : St S w0 w L R) (hF : flR 0 ∈ R) :
    Calls Tryz.prog 8 #[] w fun e w' => e = .returned (.bool true) ∧ St S w0 w' L R := by
  have hFi := fun w => K.fit ⟨#[120]⟩ w (by decide)
  have r1 := rep_code al_A
  have r2 := rep_code al_B
  have r3 := rep_nt al_Cn al_Ct
  have r4 := rep_code al_D
  have a1 : 0 ≤ alJ1.acts := acts_ge alA new_acts
  have a2 : 0 ≤ alJ2.acts := acts_ge alB a1
  have a3 : 0 ≤ alJ3.acts := acts_ge alC a2
  generalize (doJ newJ alA).2.n = n1, (doJ newJ alA).2.text = t1 at r1
  generalize (doJ alJ1 alB).2.n = n2, (doJ alJ1 alB).2.text = t2 at r2
  generalize (doJ alJ2 alC).2.code = c3 at r3
  generalize (doJ alJ3 alD).2.n = n4, (doJ alJ3 alD).2.text = t4 at r4
  generalize fit ⟨#[120]⟩ = tx at hFi r3
  have tx1 : (tx.toList == tx.toList) = true := by simp
  replace hFi := hid hFi; replace r1 := hid r1; replace r2 := hid r2; replace r3 := hid r3; replace r4 := hid r4
  replace a1 := hid a1; replace a2 := hid a2; replace a3 := hid a3
  have hN := hid (jr_New K X)
  go_enter Tryz.func8, Tryz.ntmps8
  go_upto_region 4 with (first
    | (refine ZyL ?_) | (refine ZyS ?_; clear X; intro w X) | (refine ZyA ?_; clear X; intro g w X)
    | (go_at_call 10; go_loud ((with_reducible refine (hN.out).mono ?_); rintro e w1 ⟨g, M1, R1, rfl, F1, X2⟩; replace X := X2; clear X2)))
  have hC := hid (jr_DoA K F1 X hF alA (by decide) (by decide) new_acts [.int .i64 1, .int .i64 0, .int .i64 0, .int .i64 2, .string ⟨#[]⟩] rfl r1.out)
  clear hN
  go_upto_region 5 with (first
    | (refine ZyL ?_) | (refine ZyS ?_; clear X; intro w X) | (refine ZyA ?_; clear X; intro g w X)
    | (go_at_call 11; go_loud ((with_reducible refine (hC.out).mono ?_); rintro e w1 ⟨M2, R2, rfl, F2, X2⟩; replace X := X2; clear X2)))
  have hC2 := hid (jr_DoA K F2 (X.perm (perm1J _ _ _)) hF alB (by decide) (by decide) a1.out [.int .i64 2, .int .i64 0, .int .i64 3, .int .i64 0, .string ⟨#[120]⟩] rfl r2.out)
  clear hC
  go_upto_region 6 with (first
    | (refine ZyL ?_) | (refine ZyS ?_; clear X; intro w X) | (refine ZyA ?_; clear X; intro g w X)
    | (go_at_call 11; go_loud ((with_reducible refine (hC2.out).mono ?_); rintro e w1 ⟨M3, R3, rfl, F3, X2⟩; replace X := X2.perm (perm1J _ _ _).symm; clear X2)))
  have hC3 := hid (jr_DoA K F3 (X.perm (perm2J _ _ _ _)) hF alC (by decide) (by decide) a2.out [.int .i64 9, .int .i64 0, .int .i64 3, .int .i64 0, .string ⟨#[]⟩] rfl r3.out)
  clear hC2
  go_upto_region 7 with (first
    | (refine ZyL ?_) | (refine ZyS ?_; clear X; intro w X) | (refine ZyA ?_; clear X; intro g w X)
    | (go_at_call 11; go_loud ((with_reducible refine (hC3.out).mono ?_); rintro e w1 ⟨M4, R4, rfl, F4, X2⟩; replace X := X2.perm (perm2J _ _ _ _).symm; clear X2)))
  have hC4 := hid (jr_DoA K F4 (X.perm (perm3J _ _ _ _ _)) hF alD (by decide) (by decide) a3.out [.int .i64 6, .int .i64 0, .int .i64 0, .int .i64 0, .string ⟨#[]⟩] rfl r4.out)
  clear hC3
  go_upto_region 8 with (first
    | (refine ZyL ?_) | (refine ZyS ?_; clear X; intro w X) | (refine ZyA ?_; clear X; intro g w X)
    | (go_at_call 11; go_loud ((with_reducible refine (hC4.out).mono ?_); rintro e w1 ⟨M5, R5, rfl, F5, X2⟩; replace X := X2.perm (perm3J _ _ _ _ _).symm; clear X2)))
  (refine q_startS 4 [] [11] [1, 5, 10, 16, 21] [0, 1, 2, 3, 4, 5, 6, 7, 8, 9, 10, 11, 12, 13, 14, 15, 16, 17, 18, 19, 20, 21, 22, 23, 24] X ?_; clear X; intro hQ X hL; simp only [zF, zG] at hL; simp only [zF, zG])
  (refine Zf ?_)
  (refine Zl ?_)
  (refine Zg ?_)
  (refine Zm ?_)
  (refine Zf ?_)
  (refine Zl ?_)
  (refine Zg ?_)
  (refine Zg ?_)
  (refine Zm ?_)
  (refine Zf ?_)
  (refine Zl ?_)
  (refine q_callS 12 Tryz.func12 (hFi.out _) ?_; rintro e w1 ⟨rfl, hb1⟩; replace X := X.call hb1; clear hb1; refine Zce ?_; clear hL; intro hL)
  (refine Zg ?_)
  (refine Zg ?_)
  (refine Zm ?_)
  (refine Zf ?_)
  (refine Zl ?_)
  (refine Zg ?_)
  (refine Zg ?_)
  (refine Zm ?_)
  (refine Zf ?_)
  (refine Zl ?_)
  (refine Zg ?_)
  (refine Zg ?_)
  (refine Za ?_)
  refine q_nil ?_
  go_wp2
  go_ret
  exact ⟨rfl, (X.sub (.cons _ (.cons _ (.cons _ (.cons _ (List.sublist_append_right _ _)))))).lessR⟩
end Go.Proofs.YtjhmfljlclajnabGreatDoor
namespace Wb
open Go Go.RowKit
variable {P : Program} {S : List Nat} {w0 w : World} {L : List Ent} {R : List Rd}
variable {ops : Array Oper} {Q : Exit → Act → World → Prop} {L0 : List Ent} {R0 : List Rd} {brk eff lds r : List Nat} {a : Act} {i : Nat} {o : Oper}
theorem q_callV (f : FuncId) {x : Operand} {caps : Array Value} (xs : List Operand) (ts : Array TypeId) (hi : oAt ops i = some o) (ho : o.op = .call { callee := .value x, args := xs.toArray, argTypes := ts }) (hx : EvR a x (.func (.func f) #[] caps)) (args : Array Value) (ha : (xs.map a.eval).toArray = args)
    (hb : ∃ fn c, P.funcs[f]? = some fn ∧ (fn.name == "runtime.NumGoroutine") = false ∧ fn.body = some c) (he : eff.contains i = true) (hw : Region.wanted o (yielded ops a.tmps) = true) {F : Ending → World → Prop}
    (h : Calls P f (args ++ caps) w F) (hK : ∀ e w', F e w' → ∃ v, e = .returned v ∧ (brk.contains i = false → Kept L0 R0 w → Kept L0 R0 w') ∧ SQ P ops Q L0 R0 brk eff lds r (a.put o.dst v) w') : SQ P ops Q L0 R0 brk eff lds (i :: r) a w :=
  q_eff hi he hw fun K hk => by
    subst ha
    obtain ⟨fn, c, h1, h2, h3⟩ := hb
    have hr : (execOp a.eval o).run P w = .ok (.enter f ((xs.map a.eval).toArray ++ caps)) w := by
      unfold execOp
      simp [ho, resolve, invoke, Deferred.ofValue, hx.eval, run_enter h1 h2 h3]
    unfold Oper.wp
    rw [hr, Oper.upon_enter]
    exact h.mono fun e w' hF => by obtain ⟨v, rfl, hs, hq⟩ := hK e w' hF; exact hk _ _ hs hq
def jAt (l : List Aj) (k : Nat) : Jn := (l.take k).foldl (fun j a => (doJ j a).1) newJ
theorem jAt_succ {l : List Aj} {k : Nat} (hk : k < l.length) : jAt l (k + 1) = (doJ (jAt l k) l[k]).1 := by
  unfold jAt
  rw [List.take_add_one, List.getElem?_eq_getElem hk, List.foldl_append]
  rfl
theorem ajC_len (a : Aj) : (ajC a).length = 5 := rfl
theorem RL.atAj {w : World} {al : Option Addr} {n cap : Nat} {l : List Aj} (h : RL ajC w (.slice al n cap) l) {k : Nat} (hk : k < l.length) :
    ∃ b off, al = some ⟨b, off, none⟩ ∧ w.cell? ⟨b, off + k * 5, none⟩ = some (.int .i64 l[k].kind) ∧ w.cell? ⟨b, off + k * 5 + 1, none⟩ = some (.int .i64 l[k].h) ∧ w.cell? ⟨b, off + k * 5 + 2, none⟩ = some (.int .i64 l[k].b) ∧ w.cell? ⟨b, off + k * 5 + 3, none⟩ = some (.int .i64 l[k].n) ∧ w.cell? ⟨b, off + k * 5 + 4, none⟩ = some (.string l[k].text) := by
  obtain ⟨b, off, ha, hc⟩ := RL.at (c := 5) ajC_len h hk (by decide)
  exact ⟨b, off, ha, hc 0 _ rfl, hc 1 _ rfl, hc 2 _ rfl, hc 3 _ rfl, hc 4 _ rfl⟩
def repC (r : Rep) : List Value := [.int .i64 r.code, .int .i64 r.n, .string r.text]
theorem repC_flat : Flat repC 3 := ⟨fun _ => rfl, fun _ u hu => by simp [repC] at hu; rcases hu with rfl | rfl | rfl <;> rfl, by decide⟩
def repsOf (j : Jn) : List Aj → List Rep
  | [] => []
  | a :: r => (doJ j a).2 :: repsOf (doJ j a).1 r
theorem repsOf_len (l : List Aj) : ∀ j, (repsOf j l).length = l.length := by
  induction l with
  | nil => intro j; rfl
  | cons a r ih => intro j; simp only [repsOf, List.length_cons, ih]
theorem repsOf_append (l m : List Aj) : ∀ j, repsOf j (l ++ m) = repsOf j l ++ repsOf (l.foldl (fun j a => (doJ j a).1) j) m := by
  induction l with
  | nil => intro j; rfl
  | cons a r ih => intro j; simp only [List.cons_append, repsOf, ih, List.foldl_cons]
theorem repsOf_take (l : List Aj) (k : Nat) : ∀ j, repsOf j (l.take k) = (repsOf j l).take k := by
  induction l generalizing k with
  | nil => intro j; simp [repsOf]
  | cons a r ih =>
    intro j
    cases k with
    | zero => rfl
    | succ k => simp only [List.take_succ_cons, repsOf, ih]
def reps (l : List Aj) (k : Nat) : List Rep := repsOf newJ (l.take k)
theorem reps_succ {l : List Aj} {k : Nat} (hk : k < l.length) : reps l (k + 1) = reps l k ++ [(doJ (jAt l k) l[k]).2] := by
  unfold reps
  rw [List.take_add_one, List.getElem?_eq_getElem hk, repsOf_append]
  rfl
theorem reps_len {l : List Aj} {k : Nat} (hk : k ≤ l.length) : (reps l k).length = k := by
  unfold reps
  rw [repsOf_len, List.length_take]
  omega
theorem reps_all (l : List Aj) : reps l l.length = repsOf newJ l := by unfold reps; rw [List.take_length]
end Wb
namespace Go.Proofs.YtjhmfljlclajnabGreatDoor
open Go.RowKit Wb
set_option maxRecDepth 100000
set_option maxHeartbeats 16000000
theorem elemRep : Elem Tryz.prog 38 30 3 32 := Elem.mk' (z := .agg #[.int .i64 0, .int .i64 0, .string ⟨#[]⟩]) Tryz.underlying38 (by kernel_rfl) rfl
theorem acts_atR (l : List Aj) : ∀ k, 0 ≤ (jAt l k).acts := by
  intro k
  unfold jAt
  generalize hj : newJ = j
  have h0 : 0 ≤ j.acts := by rw [← hj]; exact new_acts
  clear hj
  induction l.take k generalizing j with
  | nil => exact h0
  | cons a r ih => exact ih _ (acts_ge a h0)
theorem jr_Run (K : JK) {S : List Nat} {w0 w : World} {L : List Ent} {R : List Rd} (l : List Aj) (hok : ∀ a ∈ l, a.text.size ≤ 9223372036854775807 ∧ a.n ≤ 9223372036854775807) (X : St S w0 w L R) (hF : flR 0 ∈ R) {al : Option Addr} {cl : Nat} (hl : Rd.of ajC (.slice al l.length cl) l ∈ R) (h4 : l.length ≤ 400) :
    Calls Tryz.prog 9 #[.slice al l.length cl] w fun e w' => ∃ ao co Mo, e = .returned (.tuple #[.slice ao l.length co, .int .i64 0]) ∧ OwnM repC 30 3 (.slice ao l.length co) (repsOf newJ l) Mo ∧ St S w0 w' (Mo ++ L) R := by
  have hN := hid (jr_New K X)
  replace hok := hid hok
  have c1 : ¬ (400 : Int) < (l.length : Int) := by omega
  go_enter Tryz.func9, Tryz.ntmps9
  go_wp2_with (first
    | (refine ZyL ?_) | (refine ZyS ?_; clear X; intro w X) | (refine ZyA ?_; clear X; intro g w X)
    | (go_at_call 10; go_loud ((with_reducible refine (hN.out).mono ?_); rintro e w1 ⟨gj, M, Rj, rfl, F, X2⟩; replace X := X2; clear X2)))
  clear hN c1
  go_loopw [5, 14] (fun v i wr => ∃ (k : Nat) (M : List Ent) (Rj : List Rd) (Mo : List Ent), k ≤ l.length ∧ i = .int .i64 k ∧ JF gj (jAt l k) M Rj ∧ OwnM repC 30 3 v (reps l k) Mo ∧ St S w0 wr (M ++ (Mo ++ L)) (Rj ++ R)) (fun _ i _ => l.length - (intOf i).toNat)
  case atStart => exact ⟨0, M, Rj, [], Nat.zero_le _, rfl, F, OwnM.nil _ _ _, X⟩
  case round =>
    clear X F
    obtain ⟨k, M, Rj, Mo, hk1, rfl, F, hO, X⟩ := hrel
    obtain ⟨ao, co, rfl⟩ := hO.form
    by_cases hlt : k < l.length
    · obtain ⟨b4, off4, hb4, d0, d1, d2, d3, d4⟩ := RL.atAj (X.read (List.mem_append_right _ hl)) hlt
      subst hb4
      have hoka := hok.out _ (List.getElem_mem hlt)
      have hD := fun (w : World) (L : List Ent) (X : St S w0 w (M ++ L) (Rj ++ R)) => jr_DoA K F X hF l[k] hoka.1 hoka.2 (acts_atR l k) [.int .i64 l[k].kind, .int .i64 l[k].h, .int .i64 l[k].b, .int .i64 l[k].n, .string l[k].text] rfl (c := (doJ (jAt l k) l[k]).2.code) (n := (doJ (jAt l k) l[k]).2.n) (t := (doJ (jAt l k) l[k]).2.text) rfl
      rw [← jAt_succ hlt] at hD
      replace hD := hid hD
      clear hoka
      have hrl := reps_len hk1
      have hrs := reps_succ hlt
      rw [show (doJ (jAt l k) l[k]).2 = ⟨(doJ (jAt l k) l[k]).2.code, (doJ (jAt l k) l[k]).2.n, (doJ (jAt l k) l[k]).2.text⟩ from rfl] at hrs
      generalize (doJ (jAt l k) l[k]).2.code = rc, (doJ (jAt l k) l[k]).2.n = rn, (doJ (jAt l k) l[k]).2.text = rt at hD hrs
      replace hrs := hid hrs
      replace hrl := hid hrl
      go_upto_region 8 with (first
        | (refine ZyL ?_) | (refine ZyS ?_; clear X; intro w X) | (refine ZyA ?_; clear X; intro g w X))
      go_wp2_with (first
        | (refine ZyL ?_) | (refine ZyS ?_; clear X; intro w X) | (refine ZyA ?_; clear X; intro g w X)
        | (go_at_call 11; go_loud ((with_reducible refine (hD.out _ _ (X.perm (perm1J _ _ _))).mono ?_); rintro e w1 ⟨M2, R2, rfl, F2, X2⟩; replace X := X2.perm (perm1J _ _ _).symm; clear X2))
        | (at_builtin; go_loud (refine m_push (_ :: M2) rfl _ _ _ rfl 32 repC_flat elemRep X hO rfl ⟨rc, rn, rt⟩ rfl rfl (by rw [hrl.out]; omega) (by unfold maxLen; rw [hrl.out]; omega) ?_); intro a7 c7 w7 M7 hO7 X7; simp only [List.cons_append, List.nil_append] at X7; replace X := X7; clear X7))
      rw [← hrs.out] at hO7
      go_roundw
      case rel => exact ⟨k + 1, M2, R2, M7, by omega, by go_num, F2, hO7, X.sub (List.sublist_cons_self _ _)⟩
      case measure => simp [intOf]; omega
    · have hk : k = l.length := by omega
      subst hk
      rw [reps_len (Nat.le_refl _)] at hO ⊢
      rw [reps_all] at hO
      go_wp2_with (first
        | (refine ZyL ?_) | (refine ZyS ?_; clear X; intro w X) | (refine ZyA ?_; clear X; intro g w X))
      first
        | exact bodyPost_ret (results_tmp2 rfl _ _ _) rfl ⟨_, _, _, rfl, hO, (X.sub (List.sublist_append_right _ _)).lessR⟩
        | exact bodyPost_ret (results_tmp2 rfl _ _ _) rfl ⟨_, _, rfl, _, hO, (X.sub (List.sublist_append_right _ _)).lessR⟩
end Go.Proofs.YtjhmfljlclajnabGreatDoor
namespace Wb
open Go Go.RowKit
theorem tmod_posR (k n : Int) (hn : 0 < n) : -n < k.tmod n ∧ k.tmod n < n ∧ (k.tmod n < 0 → k.tmod n + n = k % n) ∧ (¬ k.tmod n < 0 → k.tmod n = k % n) := by
  have h1 := Int.emod_nonneg k (show n ≠ 0 by omega)
  have h2 := Int.emod_lt_of_pos k hn
  by_cases h0 : 0 ≤ k
  · rw [Int.tmod_eq_emod_of_nonneg h0]
    refine ⟨by omega, h2, fun h => by omega, fun _ => rfl⟩
  · have e : k = -(-k) := by omega
    have g1 := Int.emod_nonneg (-k) (show n ≠ 0 by omega)
    have g2 := Int.emod_lt_of_pos (-k) hn
    have e2 : k.tmod n = -((-k) % n) := by
      conv => lhs; rw [e]
      rw [Int.neg_tmod, Int.tmod_eq_emod_of_nonneg (by omega)]
    have e3 : k % n = if (-k) % n = 0 then 0 else n - (-k) % n := by
      have q1 : k = n * (-((-k) / n)) + -((-k) % n) := by have := Int.mul_ediv_add_emod (-k) n; rw [Int.mul_neg]; omega
      split
      · rename_i hz
        have : n ∣ -k := Int.dvd_of_emod_eq_zero hz
        exact Int.emod_eq_zero_of_dvd ((Int.dvd_neg).1 this)
      · rename_i hz
        have q2 : k = n * (-((-k) / n) - 1) + (n - (-k) % n) := by rw [Int.mul_sub]; omega
        conv => lhs; rw [q2]
        rw [Int.mul_add_emod_self_left]
        exact Int.emod_eq_of_lt (by omega) (by omega)
    rw [e2]
    refine ⟨by omega, by omega, fun h => ?_, fun h => ?_⟩
    · rw [e3, if_neg (by omega)]; omega
    · rw [e3, if_pos (by omega)]; omega
theorem runs_pick (k : Int) (n : Nat) (hn : n ≤ 150) : ∃ (q : Int) (m : Nat), k.tmod ((n : Int) + 1) = q ∧ -((n : Int) + 1) < q ∧ q < (n : Int) + 1 ∧ (q + n + 1).tmod ((n : Int) + 1) = (m : Int) ∧ m ≤ n := by
  obtain ⟨t1, t2, _, _⟩ := tmod_posR k ((n : Int) + 1) (by omega)
  have h2 : (k.tmod ((n : Int) + 1) + n + 1).tmod ((n : Int) + 1) = (k.tmod ((n : Int) + 1) + n + 1) % ((n : Int) + 1) := Int.tmod_eq_emod_of_nonneg (by omega)
  have h3 := Int.emod_nonneg (k.tmod ((n : Int) + 1) + n + 1) (show ((n : Int) + 1) ≠ 0 by omega)
  have h4 := Int.emod_lt_of_pos (k.tmod ((n : Int) + 1) + n + 1) (show (0 : Int) < (n : Int) + 1 by omega)
  exact ⟨_, ((k.tmod ((n : Int) + 1) + n + 1) % ((n : Int) + 1)).toNat, rfl, t1, t2, by omega, by omega⟩
theorem RL.at3r {w : World} {al : Option Addr} {n cap : Nat} {l : List Rep} (h : RL repC w (.slice al n cap) l) {k : Nat} (hk : k < l.length) :
    ∃ b off, al = some ⟨b, off, none⟩ ∧ w.cell? ⟨b, off + k * 3, none⟩ = some (.int .i64 l[k].code) ∧ w.cell? ⟨b, off + k * 3 + 1, none⟩ = some (.int .i64 l[k].n) ∧ w.cell? ⟨b, off + k * 3 + 2, none⟩ = some (.string l[k].text) :=
  RL.at3 (fun x : Rep => .int .i64 x.code) (fun x => .int .i64 x.n) (fun x => .string x.text) (fun _ => rfl) h hk
end Wb
namespace Go.Proofs.YtjhmfljlclajnabGreatDoor
open Go.RowKit Wb
set_option maxRecDepth 100000
set_option maxHeartbeats 16000000
instance : SlT Tryz.prog 22 27 5 48 := ⟨Elem.mk' (z := .agg #[.int .i64 0, .int .i64 0, .int .i64 0, .int .i64 0, .string ⟨#[]⟩]) Tryz.underlying22 (by kernel_rfl) rfl, by decide, by decide, by decide⟩
theorem law_TopRuns (K : JK) (l : List Aj) (hok : ∀ a ∈ l, a.text.size ≤ 9223372036854775807 ∧ a.n ≤ 9223372036854775807) (k : Int) {al : Option Addr} {cl : Nat} (w : World) (hl : RL ajC w (.slice al l.length cl) l) (hF : Sl w (flR 0).v 1 (flR 0).cs) :
    Calls Tryz.prog 4 #[.slice al l.length cl, .int .i64 k] w fun e w' => e = .returned (.bool true) ∧ Below w.heap.size w w' := by
  have X : St [] w w [] [Rd.of ajC (.slice al l.length cl) l, flR 0] := ((St.start [] w).addR0 hF).addR0 hl
  obtain ⟨_, _, he, hcl, hcm⟩ := hl.form
  cases he
  have hAl := fun (w1 : World) (R : List Rd) (hm : flR 0 ∈ R) (X : St [] w w1 [] R) => jr_alive K X hm
  by_cases h5 : 150 < l.length
  · have c1 : (150 : Int) < (l.length : Int) := by omega
    replace hAl := hid hAl
    go_enter Tryz.func4, Tryz.ntmps4
    go_wp2_with (first
      | (refine ZyL ?_) | (refine ZyS ?_; clear X; intro w X) | (refine ZyA ?_; clear X; intro g w X)
      | (go_at_call 8; go_loud ((with_reducible refine (hAl.out _ _ (List.Mem.tail _ (List.Mem.head _)) X).mono ?_); rintro e w1 ⟨rfl, X2⟩; replace X := X2; clear X2)))
    go_ret
    exact ⟨rfl, X.below⟩
  have c1 : ¬ (150 : Int) < (l.length : Int) := by omega
  obtain ⟨q, m, hq, hq1, hq2, hm, hmn⟩ := runs_pick k l.length (by omega)
  obtain ⟨l2, hl2, hl2l⟩ : ∃ l2, l2 = l.take m ∧ l2.length = m := ⟨_, rfl, by rw [List.length_take]; omega⟩
  have hrp : repsOf newJ l2 = (repsOf newJ l).take m := by rw [hl2, repsOf_take]
  have hrl := repsOf_len l newJ
  have hrl2 := repsOf_len l2 newJ
  have hok2 : ∀ a ∈ l2, a.text.size ≤ 9223372036854775807 ∧ a.n ≤ 9223372036854775807 := fun a ha => hok a (List.mem_of_mem_take (hl2 ▸ ha))
  have htk : ∀ (wt : World), RL ajC wt (.slice al l.length cl) l → RL ajC wt (.slice al m cl) l2 := fun wt h => by rw [hl2]; exact h.take hmn
  subst hl2l
  clear hl2
  replace hok := hid hok; replace hok2 := hid hok2; replace hrp := hid hrp; replace hrl := hid hrl; replace hrl2 := hid hrl2; replace htk := hid htk
  have fw1 : IntKind.i64.wrap ((l.length : Int) + 1) = (l.length : Int) + 1 := IntWalk.i64_in _ (by omega)
  have fw2 : IntKind.i64.wrap q = q := IntWalk.i64_in _ (by omega)
  have fw3 : IntKind.i64.wrap (q + (l.length : Int)) = q + (l.length : Int) := IntWalk.i64_in _ (by omega)
  have fw4 : IntKind.i64.wrap (q + (l.length : Int) + 1) = q + (l.length : Int) + 1 := IntWalk.i64_in _ (by omega)
  have fw5 : IntKind.i64.wrap (l2.length : Int) = (l2.length : Int) := IntWalk.i64_in _ (by omega)
  have hne : (((l.length : Int) + 1) == 0) = false := beq_eq_false_iff_ne.2 (by omega)
  have hne2 : ¬ ((l.length : Int) + 1) = 0 := by omega
  replace hAl := hid hAl
  go_enter Tryz.func4, Tryz.ntmps4
  go_upto_region 4 with (first
    | (refine ZyL ?_) | (refine ZyS ?_; clear X; intro w X) | (refine ZyA ?_; clear X; intro g w X)
    | (go_at_call 8; go_loud ((with_reducible refine (hAl.out _ _ (List.Mem.tail _ (List.Mem.head _)) X).mono ?_); rintro e w1 ⟨rfl, X2⟩; replace X := X2; clear X2)))
  have hRu := fun (w1 : World) (R : List Rd) (ac : Option Addr) (cc : Nat) (hm : flR 0 ∈ R) (hm2 : Rd.of ajC (.slice ac l.length cc) l ∈ R) (X : St [] w w1 [] R) => jr_Run K l hok.out X hm hm2 (by omega)
  have hRu2 := fun (w1 : World) (R : List Rd) (ac : Option Addr) (cc : Nat) (hm : flR 0 ∈ R) (hm2 : Rd.of ajC (.slice ac l2.length cc) l2 ∈ R) (X : St [] w w1 [] R) => jr_Run K l2 hok2.out X hm hm2 (by omega)
  replace hRu := hid hRu; replace hRu2 := hid hRu2
  clear hAl
  go_upto_region 5 with (first
    | (refine ZyL ?_) | (refine ZyS ?_; clear X; intro w X) | (refine ZyA ?_; clear X; intro g w X)
    | (at_builtin; go_loud (refine m_appL rfl rfl l ajC_flat X Zev Zev (X.read (List.Mem.head _)) (by omega) (by omega) ?_; intro a2 c2 w2 M2 hO2 X2; replace X := St.ownEnd (L := []) (T := []) X2 hO2; clear X2 hO2; (simp only [Act.put, zA, zB, zC, zD, zE, zF, zG, Nat.reduceAdd])))
    | (go_at_call 9; go_loud ((with_reducible refine (hRu.out _ _ _ _ (List.Mem.tail _ (List.Mem.tail _ (List.Mem.head _))) (List.Mem.head _) X).mono ?_); rintro e w1 ⟨ao, co, Mo, rfl, hO, X2⟩; replace X := St.ownEnd (L := []) (T := []) X2 hO; clear X2 hO)))
  go_upto_region 6 with (first
    | (refine ZyL ?_) | (refine ZyS ?_; clear X; intro w X) | (refine ZyA ?_; clear X; intro g w X)
    | (at_builtin; go_loud (refine m_appL rfl rfl l2 ajC_flat X Zev Zev (htk.out _ (X.read (List.Mem.tail _ (List.Mem.tail _ (List.Mem.head _))))) (by omega) (by omega) ?_; intro a2 c2 w2 M2 hO2 X2; replace X := St.ownEnd (L := []) (T := []) X2 hO2; clear X2 hO2; (simp only [Act.put, zA, zB, zC, zD, zE, zF, zG, Nat.reduceAdd])))
    | (go_at_call 9; go_loud ((with_reducible refine (hRu2.out _ _ _ _ (List.Mem.tail _ (List.Mem.tail _ (List.Mem.tail _ (List.Mem.tail _ (List.Mem.head _))))) (List.Mem.head _) X).mono ?_); rintro e w1 ⟨ao2, co2, Mo2, rfl, hO, X2⟩; replace X := St.ownEnd (L := []) (T := []) X2 hO; clear X2 hO)))
  have hle1 : ((l.length : Int) != (l.length : Int)) = false := by simp
  have hle2 : ((l2.length : Int) != (l2.length : Int)) = false := by simp
  go_wp2_with (first
    | (refine ZyL ?_) | (refine ZyS ?_; clear X; intro w X) | (refine ZyA ?_; clear X; intro g w X))
  clear fw1 fw2 fw3 fw4 fw5 hne hne2 hq c1 hok hok2 hRu hRu2 htk
  go_loopw [9] (fun i wr => ∃ k : Nat, k ≤ l2.length ∧ i = .int .i64 k ∧ St [] w wr [] (Rd.of repC (.slice ao2 l2.length co2) (repsOf newJ l2) :: Rd.of ajC (.slice a2 l2.length c2) l2 :: Rd.of repC (.slice ao l.length co) (repsOf newJ l) :: [])) (fun i _ => l2.length - (intOf i).toNat)
  case atStart => exact ⟨0, Nat.zero_le _, rfl, ⟨X.mv, X.nd, X.blk, X.own, fun r hr => X.rd r (by
    rcases List.mem_cons.1 hr with rfl | hr
    · exact .head _
    rcases List.mem_cons.1 hr with rfl | hr
    · exact .tail _ (.head _)
    rcases List.mem_cons.1 hr with rfl | hr
    · exact .tail _ (.tail _ (.head _))
    cases hr)⟩⟩
  case round =>
    clear X
    obtain ⟨k, hk, rfl, X⟩ := hrel
    by_cases hlt : k < l2.length
    · obtain ⟨b1, o1, hb1, c0, c1, c2⟩ := RL.at3r (X.read (List.Mem.head _)) (by rw [hrl2.out]; exact hlt)
      obtain ⟨b2, o2, hb2, d0, d1, d2⟩ := RL.at3r (X.read (List.Mem.tail _ (List.Mem.tail _ (List.Mem.head _)))) (k := k) (by rw [hrl.out]; omega)
      cases hb1; cases hb2
      have hxy : (repsOf newJ l2)[k]'(by rw [hrl2.out]; exact hlt) = (repsOf newJ l)[k]'(by rw [hrl.out]; omega) := by
        simp only [hrp.out, List.getElem_take]
      rw [hxy] at c0 c1 c2
      clear hxy
      generalize (repsOf newJ l)[k]'(by rw [hrl.out]; omega) = x at *
      have c3 : (k : Int) < (l2.length : Int) := by omega
      have hkl : k < l.length := by omega
      go_wp2
      go_quiet (fail)
      go_wp2
      go_roundw
      case rel => exact ⟨k + 1, by omega, by go_num, X.drewN _⟩
      case measure => simp [intOf]; omega
    · go_wp2
      go_ret
      exact ⟨rfl, X.below⟩
end Go.Proofs.YtjhmfljlclajnabGreatDoor
namespace Go.Proofs.YtjhmfljlclajnabGreatDoor
open Go.RowKit Wb
set_option maxRecDepth 100000
set_option maxHeartbeats 1000000
theorem disk_Put_good (d : Dsk) (n : Int) (t : ByteArray) (v : Value) (w : World) (hd : RDisk w v d) (hg : goodD d = true) (ha : isAt n = true) (h32 : t.size = 32) (h200 : ¬ 200 ≤ d.writes.length) :
    Calls Tryz.prog 15 #[v, .int .i64 n, .string t] w fun e w' => ∃ v', e = .returned (.tuple #[v', .int .i64 0]) ∧ RDisk w' v' ⟨d.safe, d.writes ++ [⟨n, t⟩]⟩ ∧ NewD w.heap.size w' v v' d ⟨d.safe, d.writes ++ [⟨n, t⟩]⟩ ∧ Below w.heap.size w w' := by
  have hG := fun w (hh : RDisk w v d) => disk_Good d v w hh
  have hA := fun w => disk_at n w
  rw [hg] at hG
  rw [ha] at hA
  have e1 : ((t.size : Int) != 32) = false := by rw [h32]; rfl
  have hd2 := hd
  obtain ⟨vs, vw, rfl, hs, hw, n1, n2⟩ := hd
  obtain ⟨a, cap, rfl, ca1, ca2⟩ := hs.form
  obtain ⟨b, bcap, rfl, cb1, cb2⟩ := hw.form
  replace hd2 := hid hd2
  clear hg ha h32
  obtain ⟨safe, writes⟩ := d
  dsimp only at *
  have hC := fun v w (hh : RL wrC w v writes) => clone_Writes writes v w hh n2
  replace hG := hid hG
  replace hA := hid hA
  replace hC := hid hC
  replace hs := hid hs
  replace hw := hid hw
  go_enter Tryz.func15, Tryz.ntmps15
  go_wp2_with (first
    | (go_at_call 27; refine (hG.out _ (hd2.out.below (by exact Zlo))).mono ?_; rintro e w1 ⟨rfl, hb1⟩; obtain ⟨hbc, hbf⟩ := bcell hb1; have hbz := hb1.size; try simp only [World.size_alloc, World.size_setCell, World.size_drew] at hbz; have hz0 := Nat.lt_of_lt_of_le (n := w.heap.size) (by omega) hbz; have hz1 := Nat.lt_of_lt_of_le (n := w.heap.size + 1) (by omega) hbz)
    | (go_at_call 28; refine (hA.out _).mono ?_; rintro e w2 ⟨rfl, rfl⟩))
  have hnx : Below w.heap.size w w1 := by exact Zlo
  have k0 : Blk w1 w.heap.size #[.slice a safe.length cap, .slice b writes.length bcap] 47 := ((Blk.new w _ _).alloc _).step hb1
  have k1 : Blk w1 (w.heap.size + 1) #[.slice none 0 0, .slice none 0 0] 47 := (Blk.newAt (w := w.alloc _) (by simp)).step hb1
  have c0 := k0.cell 0
  have c1 := k0.cell 1
  simp only [Zga, Zgb, Zgc] at c0 c1
  have hw1 := hid (hw.out.below hnx)
  clear hb1 hbc hbf hw hd2
  go_region_held3 (fun w' => w'.cell? ⟨w.heap.size, 0, none⟩ = some (.slice a safe.length cap) ∧ w'.cell? ⟨w.heap.size, 1, none⟩ = some (.slice b writes.length bcap)) (first | exact ⟨by with_reducible assumption, by with_reducible assumption⟩ | go_keep) (first
    | (refine step_call 29 _ _ (by rfl) (by rfl) #[.slice b writes.length bcap] (by rfl) ⟨_, _, Tryz.func29, by kernel_rfl, rfl⟩ (hC.out _ _ (hw1.out.below (by exact Zlo))) ?_; rintro e w3 ⟨v3, rfl, hown3, hb3⟩; obtain ⟨a3, cap3, rfl⟩ := hown3.form; have hz3 : w1.heap.size ≤ w3.heap.size := (by have h := hb3.size; simp at h; omega); have k3 : Blk w3 (w.heap.size + 1) #[.slice none 0 0, .slice none 0 0] 47 := (by with_reducible (first | exact k1.drew.step hb3 | exact (k1.alloc _).drew.step hb3)); replace hown3 := hown3.mono (base' := w1.heap.size) (by simp); have hb13 : Below w.heap.size w w3 := (by with_reducible (first | exact hnx.drew.trans (hb3.mono (by simp; omega)) | exact (allocB hnx (by omega) _).drew.trans (hb3.mono (by simp; omega)))); have k03 : Blk w3 w.heap.size #[.slice a safe.length cap, .slice b writes.length bcap] 47 := (by with_reducible (first | exact k0.drew.step hb3 | exact (k0.alloc _).drew.step hb3)); have p0 := k03.cell 0; have p1 := k03.cell 1; simp only [Zga, Zgb, Zgc] at p0 p1; refine ⟨_, rfl, ?_⟩)
    | go_loud (refine step_app (by rfl) _ _ 45 (by rfl) w1.heap.size _ 2 24 wrC_flat elemWr (hown3.alloc _) (by rfl) [⟨n, t⟩] (RL.newN (f := wrC) _ _ _ [⟨n, t⟩] (by show 1 ≤ maxLen; decide)) (by rfl) (by (try simp); omega) (by (try simp); unfold maxLen; omega) (by (try simp); omega) ?_; intro v4 w4 hown4 hb4 _; obtain ⟨a4, cap4, rfl⟩ := hown4.form; have k4 := (k3.alloc _).below hb4 (by omega); have hb14 := (allocB hb13 (by omega) _).trans (hb4.mono (by omega)); have k04 := (k03.alloc _).below hb4 (by omega); have p2 := k04.cell 0; have p3 := k04.cell 1; simp only [Zga, Zgb, Zgc] at p2 p3; have f0 := k4.cell 0; have f1 := k4.cell 1; simp only [Zga, Zgb, Zgc] at f0 f1; have f2 := k4.free 0; have f3 := k4.free 1)
    | go_loud (refine step_app (by rfl) _ _ 45 (by rfl) w1.heap.size _ 2 24 wrC_flat elemWr hown3 (by rfl) [⟨n, t⟩] (RL.ofBlk (f := wrC) (g := w1.heap.size) [⟨n, t⟩] ((Blk.newAt (w := w1) (by simp)).drew.step hb3) (by show 1 ≤ maxLen; decide)) (by rfl) (by (try simp); omega) (by (try simp); unfold maxLen; omega) (by (try simp); omega) ?_; intro v4 w4 hown4 hb4 _; obtain ⟨a4, cap4, rfl⟩ := hown4.form; have k4 := k3.below hb4 (by omega); have hb14 := hb13.trans (hb4.mono (by omega)); have k04 := k03.below hb4 (by omega); have p2 := k04.cell 0; have p3 := k04.cell 1; simp only [Zga, Zgb, Zgc] at p2 p3; have f0 := k4.cell 0; have f1 := k4.cell 1; simp only [Zga, Zgb, Zgc] at f0 f1; have f2 := k4.free 0; have f3 := k4.free 1))
  all_goals
    go_wp2
    have e4 : (writes ++ [(⟨n, t⟩ : Wr)]).length = writes.length + 1 := by simp
    rw [e4] at hown4
    have l1 := k1.lt
    have hF : Below w.heap.size w ((w4.setCell ⟨w.heap.size + 1, 0, none⟩ (.slice a safe.length cap)).setCell ⟨w.heap.size + 1, 1, none⟩ (.slice a4 (writes.length + 1) cap4)) := (hb14.setCell (by simp) _).setCell (by simp) _
    refine bodyPost_ret (v := .tuple #[.agg #[.slice a safe.length cap, .slice a4 (writes.length + 1) cap4], .int .i64 0]) (by simp [results, Tryz.results15, go_sem, f0, f1]) rfl ⟨_, rfl, ⟨_, _, rfl, hs.out.below hF, ?_, n1, by simp; omega⟩, ⟨_, _, _, _, rfl, rfl, .same _ _ _ _ _, ?_⟩, hF⟩
    · exact ((hown4.setCell (by simp; omega) _).setCell (by simp; omega) _).reads
    · exact ((hown4.setCell (by simp; omega) _).setCell (by simp; omega) _).slot (by omega)
theorem disk_PutN (d : Dsk) (n : Int) (t : ByteArray) (v : Value) (w : World) (hd : RDisk w v d) :
    Calls Tryz.prog 15 #[v, .int .i64 n, .string t] w fun e w' => ∃ v', e = .returned (.tuple #[v', .int .i64 (putE d n t)]) ∧ RDisk w' v' (putD d n t) ∧ NewD w.heap.size w' v v' d (putD d n t) ∧ Below w.heap.size w w' := by
  have hG := fun w (hh : RDisk w v d) => disk_Good d v w hh
  have hA := fun w => disk_at n w
  have hd2 := hd
  obtain ⟨vs, vw, rfl, hs, hw, n1, n2⟩ := hd
  obtain ⟨a, cap, rfl, _⟩ := hs.form
  obtain ⟨b, bcap, rfl, _⟩ := hw.form
  replace hd2 := hid hd2
  by_cases hg : goodD d = true
  · rw [hg] at hG
    by_cases ha : isAt n = true
    · have hg0 := hg
      have ha0 := ha
      rw [ha] at hA
      have hgood : goodD d = true ∧ isAt n = true := ⟨hg, ha⟩
      by_cases h32 : t.size = 32
      · have e1 : ((t.size : Int) != 32) = false := by rw [h32]; rfl
        by_cases h200 : 200 ≤ d.writes.length
        · have he : putE d n t = 11 := by unfold putE; rw [if_neg (not_not_intro hgood), if_neg (not_not_intro h32), if_pos h200]
          have hv : putD d n t = d := by unfold putD; rw [he, if_neg (by decide)]
          rw [hv, he]
          clear ha hg hv he hs hw hgood h32
          replace hG := hid hG
          replace hA := hid hA
          go_enter Tryz.func15, Tryz.ntmps15
          go_wp2_with (first
            | (go_at_call 27; refine (hG.out _ (hd2.out.below (by exact Zlo))).mono ?_; rintro e w1 ⟨rfl, hb1⟩; obtain ⟨hbc, hbf⟩ := bcell hb1; have hbz := hb1.size; try simp only [World.size_alloc, World.size_setCell, World.size_drew] at hbz; have hz0 := Nat.lt_of_lt_of_le (n := w.heap.size) (by omega) hbz; have hz1 := Nat.lt_of_lt_of_le (n := w.heap.size + 1) (by omega) hbz)
            | (go_at_call 28; refine (hA.out _).mono ?_; rintro e w2 ⟨rfl, rfl⟩))
          exact bodyPost_ret (v := .tuple #[.agg #[.slice a d.safe.length cap, .slice b d.writes.length bcap], .int .i64 11]) (by simp [results, Tryz.results15, go_sem, hbc]) rfl ⟨_, rfl, hd2.out.below (by exact Zlo), hd2.out.same _, by exact Zlo⟩
        · have he : putE d n t = 0 := by unfold putE; rw [if_neg (not_not_intro hgood), if_neg (not_not_intro h32), if_neg h200]
          have hv : putD d n t = ⟨d.safe, d.writes ++ [⟨n, t⟩]⟩ := by unfold putD; rw [if_pos he]
          rw [hv, he]
          clear ha hg hv he hgood
          exact disk_Put_good d n t _ w hd2.out hg0 ha0 h32 h200
      · have e1 : ((t.size : Int) != 32) = true := bne_iff_ne.2 (by omega)
        have he : putE d n t = 1 := by unfold putE; rw [if_neg (not_not_intro hgood), if_pos h32]
        have hv : putD d n t = d := by unfold putD; rw [he, if_neg (by decide)]
        rw [hv, he]
        clear ha hg hv he hs hw hgood h32
        replace hG := hid hG
        replace hA := hid hA
        go_enter Tryz.func15, Tryz.ntmps15
        go_wp2_with (first
          | (go_at_call 27; refine (hG.out _ (hd2.out.below (by exact Zlo))).mono ?_; rintro e w1 ⟨rfl, hb1⟩; obtain ⟨hbc, hbf⟩ := bcell hb1; have hbz := hb1.size; try simp only [World.size_alloc, World.size_setCell, World.size_drew] at hbz; have hz0 := Nat.lt_of_lt_of_le (n := w.heap.size) (by omega) hbz; have hz1 := Nat.lt_of_lt_of_le (n := w.heap.size + 1) (by omega) hbz)
          | (go_at_call 28; refine (hA.out _).mono ?_; rintro e w2 ⟨rfl, rfl⟩))
        exact bodyPost_ret (v := .tuple #[.agg #[.slice a d.safe.length cap, .slice b d.writes.length bcap], .int .i64 1]) (by simp [results, Tryz.results15, go_sem, hbc]) rfl ⟨_, rfl, hd2.out.below (by exact Zlo), hd2.out.same _, by exact Zlo⟩
    · have he : putE d n t = 2 := by unfold putE; rw [if_pos (fun hh => ha hh.2)]
      have hv : putD d n t = d := by unfold putD; rw [he, if_neg (by decide)]
      rw [hv, he]
      rw [Bool.not_eq_true _ |>.mp ha] at hA
      clear ha hg hv he
      replace hG := hid hG
      replace hA := hid hA
      replace hs := hid hs
      replace hw := hid hw
      go_enter Tryz.func15, Tryz.ntmps15
      go_wp2_with (first
        | (go_at_call 27; refine (hG.out _ (hd2.out.below (by exact Zlo))).mono ?_; rintro e w1 ⟨rfl, hb1⟩; obtain ⟨hbc, hbf⟩ := bcell hb1; have hbz := hb1.size; try simp only [World.size_alloc, World.size_setCell, World.size_drew] at hbz; have hz0 := Nat.lt_of_lt_of_le (n := w.heap.size) (by omega) hbz; have hz1 := Nat.lt_of_lt_of_le (n := w.heap.size + 1) (by omega) hbz)
        | (go_at_call 28; refine (hA.out _).mono ?_; rintro e w2 ⟨rfl, rfl⟩))
      exact bodyPost_ret (v := .tuple #[.agg #[.slice a d.safe.length cap, .slice b d.writes.length bcap], .int .i64 2]) (by simp [results, Tryz.results15, go_sem, hbc]) rfl ⟨_, rfl, hd2.out.below (by exact Zlo), hd2.out.same _, by exact Zlo⟩
  · have he : putE d n t = 2 := by unfold putE; rw [if_pos (fun hh => hg hh.1)]
    have hv : putD d n t = d := by unfold putD; rw [he, if_neg (by decide)]
    rw [hv, he]
    rw [Bool.not_eq_true _ |>.mp hg] at hG
    clear hg hv he hs hw
    replace hG := hid hG
    go_enter Tryz.func15, Tryz.ntmps15
    go_wp2_with (go_at_call 27; refine (hG.out _ (hd2.out.below (by exact Zlo))).mono ?_; rintro e w1 ⟨rfl, hb1⟩; obtain ⟨hbc, hbf⟩ := bcell hb1; have hbz := hb1.size; try simp only [World.size_alloc, World.size_setCell, World.size_drew] at hbz; have hz0 := Nat.lt_of_lt_of_le (n := w.heap.size) (by omega) hbz; have hz1 := Nat.lt_of_lt_of_le (n := w.heap.size + 1) (by omega) hbz)
    exact bodyPost_ret (v := .tuple #[.agg #[.slice a d.safe.length cap, .slice b d.writes.length bcap], .int .i64 2]) (by simp [results, Tryz.results15, go_sem, hbc]) rfl ⟨_, rfl, hd2.out.below (by exact Zlo), hd2.out.same _, by exact Zlo⟩
theorem disk_FlushN (d : Dsk) (v : Value) (w : World) (hd : RDisk w v d) :
    Calls Tryz.prog 16 #[v] w fun e w' => ∃ v', e = .returned (.tuple #[v', .int .i64 (flushE d)]) ∧ RDisk w' v' (flushD d) ∧ NewD w.heap.size w' v v' d (flushD d) ∧ Below w.heap.size w w' := by
  have hG := fun w (hh : RDisk w v d) => disk_Good d v w hh
  have hd2 := hd
  obtain ⟨vs, vw, rfl, hs, hw, n1, n2⟩ := hd
  obtain ⟨a, cap, rfl, ca1, ca2⟩ := hs.form
  obtain ⟨b, bcap, rfl, cb1, cb2⟩ := hw.form
  replace hd2 := hid hd2
  by_cases hg : goodD d = true
  · have he : flushE d = 0 := by unfold flushE; rw [if_pos hg]
    have hv : flushD d = ⟨flushL d.safe d.writes, []⟩ := by unfold flushD; rw [if_pos hg]
    rw [hv, he]
    rw [hg] at hG
    obtain ⟨g1, g2, _, g3⟩ := (goodD_iff d).1 hg
    clear he hv hg
    obtain ⟨safe, writes⟩ := d
    dsimp only at *
    have hC := fun v w (hh : RL strC w v safe) => clone_Strings safe v w hh n1
    have hstep := fun (k : Nat) (hk : k < writes.length) => flushL_step safe writes hk
    have hlen := fun k => flushL_len safe (writes.take k)
    have hwr := fun (k : Nat) (hk : k < writes.length) => List.all_eq_true.1 g3 writes[k] (List.getElem_mem hk)
    replace hG := hid hG
    replace hC := hid hC
    replace hs := hid hs
    replace hw := hid hw
    replace hstep := hid hstep
    replace hlen := hid hlen
    replace hwr := hid hwr
    replace g1 := hid g1
    clear g3
    go_enter Tryz.func16, Tryz.ntmps16
    go_wp2_with (first
      | (go_at_call 27; refine (hG.out _ (hd2.out.below (by exact Zlo))).mono ?_; rintro e w1 ⟨rfl, hb1⟩; obtain ⟨hbc, hbf⟩ := bcell hb1; have hbz := hb1.size; try simp only [World.size_alloc, World.size_setCell, World.size_drew] at hbz; have hz0 := Nat.lt_of_lt_of_le (n := w.heap.size) (by omega) hbz; have hz1 := Nat.lt_of_lt_of_le (n := w.heap.size + 1) (by omega) hbz)
      | (go_at_call 30; go_loud (refine (hC.out _ _ (hs.out.below (by exact Zlo))).mono ?_; rintro e w3 ⟨v3, rfl, hown3, hb3⟩; obtain ⟨a3, cap3, rfl⟩ := hown3.form; have k0 : Blk w3 w.heap.size #[.slice a safe.length cap, .slice b writes.length bcap] 47 := (((Blk.new w _ _).alloc _).step hb1).step hb3; have k1 : Blk w3 (w.heap.size + 1) #[.slice none 0 0, .slice none 0 0] 47 := ((Blk.newAt (w := w.alloc _) (by simp)).step hb1).step hb3; have hnx3 : Below w.heap.size w w3 := (by exact Zlo); have lt1 := k1.lt; have lt0 := k0.lt; have c0 := k0.cell 0; have c1 := k0.cell 1; simp only [Zga, Zgb, Zgc] at c0 c1; have og := fun g (hg : (Value.slice a3 safe.length cap3).ownBlock = some g) => World.ownsRow.lt hown3 g hg; replace og := hid og; have lz := hb1.size; clear hb1 hb3 hbc hbf)))
    have hz1w : w.heap.size + 1 < w1.heap.size := by (try simp at lz); omega
    have o0 := hown3
    go_loopw [6, 18] (fun _ i wr => ∃ k : Nat, k ≤ writes.length ∧ i = .int .i64 k ∧ Wb.Own strC w1.heap.size 9 1 wr (.slice a3 safe.length cap3) (flushL safe (writes.take k)) ∧ Blk wr w.heap.size #[.slice a safe.length cap, .slice b writes.length bcap] 47 ∧ Blk wr (w.heap.size + 1) #[.slice none 0 0, .slice none 0 0] 47 ∧ Blk wr w3.heap.size #[.slice a3 safe.length cap3, .slice none 0 0] 47 ∧ Below w.heap.size w wr) (fun _ i _ => writes.length - (intOf i).toNat)
    case atStart => exact ⟨0, Nat.zero_le _, rfl, o0.alloc _, k0.alloc _, k1.alloc _, Blk.new _ _ _, allocB hnx3 (by omega) _⟩
    case round =>
      obtain ⟨k, hk, rfl, hown, k0, k1, k2, hnx⟩ := hrel
      have lt0 := k0.lt
      have lt1 := k1.lt
      have lt2 := k2.lt
      have c0 := k0.cell 0
      have c1 := k0.cell 1
      have c2 := k1.cell 0
      have c3 := k1.cell 1
      have c4 := k2.cell 0
      have c5 := k2.cell 1
      simp only [Zga, Zgb, Zgc] at c0 c1 c2 c3 c4 c5
      by_cases hlt : k < writes.length
      · obtain ⟨b2, off, rfl, d0, d1⟩ := RL.at2 (fun x => .int .i64 x.at_) (fun x => .string x.text) (fun _ => rfl) (hw.out.below hnx) hlt
        have lt3 := World.block_lt_of_cell? _ _ d0
        dsimp only at lt3
        have hst := hstep.out k hlt
        have hwk := hwr.out k hlt
        have hl := hlen.out k
        obtain ⟨⟨p, t⟩, hx⟩ : ∃ x, writes[k] = x := ⟨_, rfl⟩
        rw [hx] at d0 d1 hst hwk
        obtain ⟨m, rfl⟩ : ∃ m : Nat, p = m := ⟨p.toNat, by simp only [wrOk, Bool.and_eq_true, isAt, decide_eq_true_eq] at hwk; omega⟩
        have hm : m < safe.length := by simp only [wrOk, Bool.and_eq_true, isAt, decide_eq_true_eq] at hwk; have := g1.out; omega
        dsimp only at d0 d1
        simp only [Int.toNat_natCast] at hst
        generalize flushL safe (writes.take k) = fl at *
        obtain ⟨g, cap4, hv, hgb, hgl, hgc, hset⟩ := hown.poke strC_flat (k := m) (by omega)
        simp only [Value.slice.injEq] at hv
        obtain ⟨rfl, _, rfl⟩ := hv
        obtain ⟨z0, z1⟩ := hgc 0 (by decide)
        replace hset := hset 0 t (.string t) (by decide) rfl
        rw [← hst, Nat.mul_one, Nat.add_zero] at hset
        simp only [Nat.mul_one, Nat.add_zero, strC, List.getElem?_cons_zero] at z0 z1
        replace hset := hid hset
        have hne := og.out g rfl
        have hm3 : m < fl.length := by omega
        obtain ⟨old, hold⟩ : ∃ y, fl[m] = y := ⟨_, rfl⟩
        rw [hold] at z1
        clear hold hwk hst hx hown hgc hl hm3
        have hm2 : (m : Int) < safe.length := by omega
        go_wp2
        go_roundw
        case rel => exact ⟨k + 1, by omega, by go_num, hset.out.alloc _, (k0.set_other _ _ (by simp; omega)).alloc _, (k1.set_other _ _ (by simp; omega)).alloc _, (k2.set_other _ _ (by simp; omega)).alloc _, allocB (hnx.setCell (by simp; omega) _) (by omega) _⟩
        case measure => simp [intOf]; omega
      · rw [List.take_of_length_le (by omega)] at hown
        have f1 := k1.free 0
        have f2 := k1.free 1
        go_wp2
        have hF : Below w.heap.size w ((wr.setCell ⟨w.heap.size + 1, 0, none⟩ (.slice a3 safe.length cap3)).setCell ⟨w.heap.size + 1, 1, none⟩ (.slice none 0 0)) := (hnx.setCell (by simp) _).setCell (by simp) _
        have hfl := flushL_len safe writes
        obtain ⟨a9, cap9, hv9, _, _⟩ := hown.reads.form
        have ho := (hown.setCell (p := ⟨w.heap.size + 1, 0, none⟩) (by simp; omega) (.slice a3 safe.length cap3)).setCell (p := ⟨w.heap.size + 1, 1, none⟩) (by simp; omega) (.slice none 0 0)
        refine bodyPost_ret (v := .tuple #[.agg #[.slice a3 safe.length cap3, .slice none 0 0], .int .i64 0]) (by simp [results, Tryz.results16, go_sem, c2, c3]) rfl ⟨_, rfl, ⟨_, _, rfl, ho.reads, RL.nil _ _, by rw [hfl]; exact n1, by simp⟩, ⟨_, _, _, _, rfl, rfl, ho.slot (by omega), .nil⟩, hF⟩
  · have he : flushE d = 2 := by unfold flushE; rw [if_neg hg]
    have hv : flushD d = d := by unfold flushD; rw [if_neg hg]
    rw [hv, he]
    rw [Bool.not_eq_true _ |>.mp hg] at hG
    clear hg hv he hs hw
    replace hG := hid hG
    go_enter Tryz.func16, Tryz.ntmps16
    go_wp2_with (go_at_call 27; refine (hG.out _ (hd2.out.below (by exact Zlo))).mono ?_; rintro e w1 ⟨rfl, hb1⟩; obtain ⟨hbc, hbf⟩ := bcell hb1; have hbz := hb1.size; try simp only [World.size_alloc, World.size_setCell, World.size_drew] at hbz; have hz0 := Nat.lt_of_lt_of_le (n := w.heap.size) (by omega) hbz; have hz1 := Nat.lt_of_lt_of_le (n := w.heap.size + 1) (by omega) hbz)
    exact bodyPost_ret (v := .tuple #[.agg #[.slice a d.safe.length cap, .slice b d.writes.length bcap], .int .i64 2]) (by simp [results, Tryz.results16, go_sem, hbc]) rfl ⟨_, rfl, hd2.out.below (by exact Zlo), hd2.out.same _, by exact Zlo⟩
theorem disk_New (w : World) :
    Calls Tryz.prog 13 #[] w fun e w' => ∃ vs, e = .returned (.agg #[vs, .slice none 0 0]) ∧ Wb.Own strC (w.heap.size + 2) 9 1 w' vs (List.replicate 37 (fit ⟨#[]⟩)) ∧ Below w.heap.size w w' := by
  have hFit := fun w => disk_Fit ⟨#[]⟩ w (by decide)
  have hrep := fun k => (List.replicate_succ' (n := k) (a := fit ⟨#[]⟩))
  generalize fit ⟨#[]⟩ = z at *
  replace hFit := hid hFit
  replace hrep := hid hrep
  go_enter Tryz.func13, Tryz.ntmps13
  go_wp2
  go_loopw [2] (fun i wr => ∃ k : Nat, k ≤ 37 ∧ i = .int .i64 k ∧ ∃ vo, Wb.Own strC (w.heap.size + 2) 9 1 wr vo (List.replicate k z) ∧ Blk wr w.heap.size #[.slice none 0 0, .slice none 0 0] 47 ∧ Blk wr (w.heap.size + 1) #[vo, .slice none 0 0] 47 ∧ Below w.heap.size w wr) (fun i _ => 37 - (intOf i).toNat)
  case atStart => exact ⟨0, by decide, rfl, _, Own.nil _ _ _ _ _, (Blk.new w _ _).alloc _, Blk.newAt (by simp), by exact Zlo⟩
  case round =>
    obtain ⟨k, hk, rfl, vo, hown, k0, k1, hnx⟩ := hrel
    obtain ⟨ao, capo, rfl⟩ := hown.form
    have lt0 := k0.lt
    have lt1 := k1.lt
    have c0 := k0.cell 0
    have c1 := k0.cell 1
    have c2 := k1.cell 0
    have c3 := k1.cell 1
    simp only [Zga, Zgb, Zgc] at c0 c1 c2 c3
    have hkl : (List.replicate k z).length = k := List.length_replicate
    rw [hkl] at hown k1 c2
    clear hkl
    by_cases hlt : k < 37
    · have hr := hid (hrep.out k)
      have hlen : (List.replicate k z).length = k := List.length_replicate
      generalize List.replicate k z = Mk at *
      go_wp2
      go_region_law (first
        | (refine step_call 12 _ _ (by rfl) (by rfl) #[.string ⟨#[]⟩] (by rfl) ⟨_, _, Tryz.func12, by kernel_rfl, rfl⟩ (hFit.out _) ?_; rintro e w3 ⟨rfl, hb3⟩; refine ⟨_, rfl, ?_⟩; have k0' := k0.drew.step hb3; have k1' := k1.drew.step hb3; have c2' := k1'.cell 0; simp only [Zga, Zgb, Zgc] at c2'; have hown3 := hown.drew.below hb3; have hnx3 := hnx.drew.trans (hb3.mono (by simp; omega)); have lt1' := k1'.lt)
        | go_loud (refine step_push (by rfl) _ _ 44 (by rfl) (w.heap.size + 2) _ 1 16 strC_flat elemStr (hown3.alloc _) (by rfl) z w3.heap.size (Blk.newAt (w := w3) rfl) (by rfl) (by rfl) k hlen (by omega) (by omega) (by (try simp); omega) ?_; intro a4 cap4 w4 hown4 hb4 _; have k4 := (k1'.alloc _).below hb4 (by omega); have f5 := k4.cell 0; simp only [Zga, Zgb, Zgc] at f5; have f6 := k4.free 0))
      all_goals
        go_wp2
        go_roundw
        case rel => exact ⟨k + 1, by omega, by go_num, _, by rw [hr.out]; exact hown4.setCell (p := ⟨w.heap.size + 1, 0, none⟩) (by simp) _, ((k0'.alloc _).below hb4 (by omega)).set_other _ _ (by simp), k4.set 0 _, ((allocB hnx3 (by omega) _).trans (hb4.mono (by omega))).setCell (by simp) _⟩
        case measure => simp [intOf]; omega
    · obtain rfl : k = 37 := by omega
      have f1 := k0.free 0
      have f2 := k0.free 1
      go_wp2
      have hF : Below w.heap.size w ((wr.setCell ⟨w.heap.size, 0, none⟩ (.slice ao 37 capo)).setCell ⟨w.heap.size, 1, none⟩ (.slice none 0 0)) := (hnx.setCell (by simp) _).setCell (by simp) _
      have ho := (hown.setCell (p := ⟨w.heap.size, 0, none⟩) (by simp) (.slice ao 37 capo)).setCell (p := ⟨w.heap.size, 1, none⟩) (by simp) (.slice none 0 0)
      exact bodyPost_ret (v := .agg #[.slice ao 37 capo, .slice none 0 0]) (by simp [results, Tryz.results13, go_sem, c0, c1]) rfl ⟨_, rfl, ho, hF⟩
end Go.Proofs.YtjhmfljlclajnabGreatDoor
namespace Go.Proofs.YtjhmfljlclajnabGreatDoor
open Go.RowKit Wb
set_option maxRecDepth 100000
set_option maxHeartbeats 2000000
theorem disk_Crash_bad (d : Dsk) (draw : Int) (v : Value) (w : World) (hd : RDisk w v d) (h : ¬ (goodD d = true ∧ 0 ≤ draw)) :
    Calls Tryz.prog 31 #[v, .int .i64 draw] w fun e w' => ∃ v', e = .returned (.tuple #[v', .int .i64 (crashE d draw)]) ∧ RDisk w' v' (crashD d draw) ∧ NewD w.heap.size w' v v' d (crashD d draw) ∧ Below w.heap.size w w' := by
  have hG := fun w (hh : RDisk w v d) => disk_Good d v w hh
  have hd2 := hd
  obtain ⟨vs, vw, rfl, hs, hw, n1, n2⟩ := hd
  obtain ⟨a, cap, rfl, ca1, ca2⟩ := hs.form
  obtain ⟨b, bcap, rfl, cb1, cb2⟩ := hw.form
  have he : crashE d draw = 2 := by unfold crashE; rw [if_neg h]
  have hv : crashD d draw = d := by unfold crashD; rw [if_neg h]
  rw [hv, he]
  clear he hv hs hw
  replace hd2 := hid hd2
  by_cases hg : goodD d = true
  · have hneg : draw < 0 := Int.not_le.1 (fun hh => h ⟨hg, hh⟩)
    rw [hg] at hG
    clear hg h
    replace hG := hid hG
    go_enter Tryz.func31, Tryz.ntmps31
    go_wp2_with (go_at_call 27; refine (hG.out _ (hd2.out.below (by exact Zlo))).mono ?_; rintro e w1 ⟨rfl, hb1⟩; obtain ⟨hbc, hbf⟩ := bcell hb1; have hbz := hb1.size; try simp only [World.size_alloc, World.size_setCell, World.size_drew] at hbz; have hz0 := Nat.lt_of_lt_of_le (n := w.heap.size) (by omega) hbz; have hz1 := Nat.lt_of_lt_of_le (n := w.heap.size + 1) (by omega) hbz)
    exact bodyPost_ret (v := .tuple #[.agg #[.slice a d.safe.length cap, .slice b d.writes.length bcap], .int .i64 2]) (by simp [results, Tryz.results31, go_sem, hbc]) rfl ⟨_, rfl, hd2.out.below (by exact Zlo), hd2.out.same _, by exact Zlo⟩
  · rw [Bool.not_eq_true _ |>.mp hg] at hG
    clear hg h
    replace hG := hid hG
    go_enter Tryz.func31, Tryz.ntmps31
    go_wp2_with (go_at_call 27; refine (hG.out _ (hd2.out.below (by exact Zlo))).mono ?_; rintro e w1 ⟨rfl, hb1⟩; obtain ⟨hbc, hbf⟩ := bcell hb1; have hbz := hb1.size; try simp only [World.size_alloc, World.size_setCell, World.size_drew] at hbz; have hz0 := Nat.lt_of_lt_of_le (n := w.heap.size) (by omega) hbz; have hz1 := Nat.lt_of_lt_of_le (n := w.heap.size + 1) (by omega) hbz)
    exact bodyPost_ret (v := .tuple #[.agg #[.slice a d.safe.length cap, .slice b d.writes.length bcap], .int .i64 2]) (by simp [results, Tryz.results31, go_sem, hbc]) rfl ⟨_, rfl, hd2.out.below (by exact Zlo), hd2.out.same _, by exact Zlo⟩
theorem disk_Crash_good (d : Dsk) (x : Nat) (v : Value) (w : World) (hd : RDisk w v d) (hg : goodD d = true) (hx : x ≤ 9223372036854775807) :
    Calls Tryz.prog 31 #[v, .int .i64 (x : Int)] w fun e w' => ∃ v', e = .returned (.tuple #[v', .int .i64 0]) ∧ RDisk w' v' ⟨crashL d x d.safe.length, []⟩ ∧ NewD w.heap.size w' v v' d ⟨crashL d x d.safe.length, []⟩ ∧ Below w.heap.size w w' := by
  have hG := fun w (hh : RDisk w v d) => disk_Good d v w hh
  have hd2 := hd
  obtain ⟨vs, vw, rfl, hs, hw, n1, n2⟩ := hd
  obtain ⟨a, cap, rfl, ca1, ca2⟩ := hs.form
  obtain ⟨b, bcap, rfl, cb1, cb2⟩ := hw.form
  rw [hg] at hG
  obtain ⟨g1, g2, _, _⟩ := (goodD_iff d).1 hg
  clear hg
  have hC := fun v w (hh : RL strC w v d.safe) => clone_Strings d.safe v w hh n1
  have hset := fun (k : Nat) (hk : k < d.safe.length) => mixL_set d x hk
  have hlen := fun (k : Nat) (hk : k ≤ d.safe.length) => mixL_len d x hk
  have hget := fun (k : Nat) => crashAt_get d x k (Nat.mod_lt _ (textsAt_pos d k))
  have hpos := fun (k : Nat) => textsAt_pos d k
  have hle := fun (k : Nat) => textsAt_le d k
  have hdr := fun (k : Nat) => drawAt_le d x k
  have hds := fun (k : Nat) => drawAt_succ d x k
  have htx := fun (k : Nat) (hk : k < d.safe.length) => textsAt_eq d hk
  have hhit := fun (n k : Nat) (hn : n < d.safe.length) (hk : k < d.writes.length) => afterL_hit d.safe[n] n hk
  have hmiss := fun (n k : Nat) (hn : n < d.safe.length) (hk : k < d.writes.length) => afterL_miss d.safe[n] n hk
  have hal := fun (n k : Nat) (hn : n < d.safe.length) => afterL_len d.safe[n] n (d.writes.take k)
  have hm0 := mixL_zero d x
  have hmf := mixL_full d x
  have hcl := crashL_len d x d.safe.length
  replace hd2 := hid hd2; replace hG := hid hG; replace hC := hid hC; replace hs := hid hs; replace hw := hid hw; replace hset := hid hset; replace hlen := hid hlen
  replace hget := hid hget; replace hpos := hid hpos; replace hle := hid hle; replace hdr := hid hdr; replace hds := hid hds; replace htx := hid htx; replace hhit := hid hhit; replace hmiss := hid hmiss; replace hal := hid hal
  replace hm0 := hid hm0; replace hmf := hid hmf; replace hcl := hid hcl; replace g1 := hid g1
  go_enter Tryz.func31, Tryz.ntmps31
  go_wp2_with (first
    | (go_at_call 27; refine (hG.out _ (hd2.out.below (by exact Zlo))).mono ?_; rintro e w1 ⟨rfl, hb1⟩; obtain ⟨hbc, hbf⟩ := bcell hb1; have hbz := hb1.size; try simp only [World.size_alloc, World.size_setCell, World.size_drew] at hbz; have hz0 := Nat.lt_of_lt_of_le (n := w.heap.size) (by omega) hbz; have hz1 := Nat.lt_of_lt_of_le (n := w.heap.size + 1) (by omega) hbz)
    | (go_at_call 30; go_loud (refine (hC.out _ _ (hs.out.below (by exact Zlo))).mono ?_; rintro e w3 ⟨v3, rfl, hown3, hb3⟩; obtain ⟨a3, cap3, rfl⟩ := hown3.form; have k0 : Blk w3 w.heap.size #[.slice a d.safe.length cap, .slice b d.writes.length bcap] 47 := (((Blk.new w _ _).alloc _).step hb1).step hb3; have k1 : Blk w3 (w.heap.size + 1) #[.slice none 0 0, .slice none 0 0] 47 := ((Blk.newAt (w := w.alloc _) (by simp)).step hb1).step hb3; have hnx3 : Below w.heap.size w w3 := (by exact Zlo); have lt1 := k1.lt; have lt0 := k0.lt; have c0 := k0.cell 0; have c1 := k0.cell 1; simp only [Zga, Zgb, Zgc] at c0 c1; have og := fun g (hh : Value.ownBlock (.slice a3 d.safe.length cap3) = some g) => World.ownsRow.lt hown3 g hh; replace og := hid og; have lz := hb1.size; clear hbc hbf hbz hb1 hb3)))
  have hz1w : w.heap.size + 1 < w1.heap.size := by (try simp at lz); omega
  have o0 := hown3
  rw [← hm0.out] at o0
  go_loopw [1, 26] (fun s1 i wr => ∃ k : Nat, k ≤ d.safe.length ∧ i = .int .i64 k ∧ s1 = .int .i64 (drawAt d x k : Nat) ∧ Wb.Own strC w1.heap.size 9 1 wr (.slice a3 d.safe.length cap3) (mixL d x k) ∧ Blk wr w.heap.size #[.slice a d.safe.length cap, .slice b d.writes.length bcap] 47 ∧ Blk wr (w.heap.size + 1) #[.slice none 0 0, .slice none 0 0] 47 ∧ Blk wr w3.heap.size #[.slice a3 d.safe.length cap3, .slice none 0 0] 47 ∧ Below w.heap.size w wr) (fun _ i _ => d.safe.length - (intOf i).toNat)
  case atStart => exact ⟨0, Nat.zero_le _, rfl, rfl, o0.alloc _, k0.alloc _, k1.alloc _, Blk.new _ _ _, allocB hnx3 (by omega) _⟩
  case round =>
    clear k0 k1 hnx3 lt0 lt1 c0 c1 o0 hown3
    obtain ⟨wo, rfl⟩ : ∃ wo : World, wo = wr := ⟨_, rfl⟩
    obtain ⟨k, hk, rfl, rfl, hown, k0, k1, k2, hnx⟩ := hrel
    have lt0 := k0.lt
    have lt1 := k1.lt
    have lt2 := k2.lt
    have c0 := k0.cell 0
    have c1 := k0.cell 1
    have c2 := k1.cell 0
    have c3 := k1.cell 1
    have c4 := k2.cell 0
    have c5 := k2.cell 1
    simp only [Zga, Zgb, Zgc] at c0 c1 c2 c3 c4 c5
    by_cases hlt : k < d.safe.length
    · obtain ⟨b2, off, rfl, d0⟩ := RL.at1 (fun x => .string x) (fun _ => rfl) (hs.out.below hnx) hlt
      have ld := World.block_lt_of_cell? _ _ d0
      dsimp only at ld
      have hset := hset.out k hlt
      have hget := hget.out k
      have hpos := hpos.out k
      have hle := hle.out k
      have hdr := hdr.out k
      have hds := hds.out k
      have htx := htx.out k hlt
      have hhit := fun j hj => hhit.out k j hlt hj
      have hmiss := fun j hj => hmiss.out k j hlt hj
      have hal := fun j => hal.out k j hlt
      have hml := hlen.out k (by omega)
      generalize mixL d x k = M at *
      replace hset := hid hset; replace hget := hid hget; replace hds := hid hds; replace htx := hid htx; replace hhit := hid hhit; replace hmiss := hid hmiss; replace hal := hid hal; replace hml := hid hml; replace hpos := hid hpos; replace hle := hid hle
      obtain ⟨sk, hsk⟩ : ∃ sk, sk = d.safe[k] := ⟨_, rfl⟩
      rw [← hsk] at d0 htx hhit hmiss hal
      clear hsk
      generalize drawAt d x k = y at *
      go_wp2
      have kl : Blk (wo.alloc (.cells #[.string sk] 9)) wo.heap.size #[.string sk] 9 := Blk.new wo _ _
      go_loopw [8, 10, 38] (fun l _ i wi => ∃ j : Nat, j ≤ d.writes.length ∧ i = .int .i64 j ∧ Wb.Own strC wo.heap.size 9 1 wi l (afterL sk k (d.writes.take j)) ∧ Below wo.heap.size wo wi ∧ wo.heap.size < wi.heap.size) (fun _ _ i _ => d.writes.length - (intOf i).toNat)
      case atStart =>
        refine ⟨0, Nat.zero_le _, rfl, ?_, bal (b0 wo) _, by simp⟩
        rw [List.take_zero, afterL_nil]
        exact Own.lit (f := strC) strC_flat wo.heap.size 9 wo [sk] (by simp) (by show 1 ≤ maxLen; decide) rfl (by simp) rfl
      case round =>
        obtain ⟨j, hj, rfl, hl, hbi, hzi⟩ := hrel
        by_cases hlt2 : j < d.writes.length
        · obtain ⟨b3, off3, rfl, d1, d2⟩ := RL.at2 (fun x => .int .i64 x.at_) (fun x => .string x.text) (fun _ => rfl) ((hw.out.below hnx).below hbi) hlt2
          have ld3 := World.block_lt_of_cell? _ _ d1
          dsimp only at ld3
          by_cases heq : d.writes[j].at_ = k
          · have hh := hhit.out j hlt2 heq
            have hq := hal.out j
            rw [List.length_take] at hq
            have e1 : (d.writes[j].at_ == (k : Int)) = true := beq_iff_eq.2 heq
            replace hh := hid hh
            clear heq
            generalize d.writes[j] = xw at *
            generalize afterL sk k (d.writes.take j) = ls at *
            have hqq : ls.length ≤ 201 := by omega
            clear hq
            go_wp2_with (at_builtin; go_loud (refine wpList_push rfl _ _ _ rfl wo.heap.size _ 1 16 strC_flat elemStr (hl.alloc _) rfl xw.text rfl rfl ?c1 ?c2 ?c3 ?c4))
            all_goals try (case c1 => omega)
            all_goals try (case c2 => unfold maxLen; omega)
            all_goals try (case c3 => simp; omega)
            case c4 =>
              intro v7 w7 hown7 hbel7 _
              rw [← hh.out] at hown7
              have hz7 := hbel7.size
              go_wp2
              go_roundw
              case rel => exact ⟨j + 1, by omega, by go_num, hown7, (allocB hbi (by omega) _).trans (hbel7.mono (by omega)), by simp at hz7; omega⟩
              case measure => simp [intOf]; omega
          · have hh := hmiss.out j hlt2 heq
            have e1 : (d.writes[j].at_ == (k : Int)) = false := beq_eq_false_iff_ne.2 heq
            replace hh := hid hh
            clear heq
            generalize d.writes[j] = xw at *
            go_wp2
            go_roundw
            case rel => exact ⟨j + 1, by omega, by go_num, by rw [hh.out]; exact hl.alloc _, allocB hbi (by omega) _, by simp; omega⟩
            case measure => simp [intOf]; omega
        · rw [List.take_of_length_le (by omega), ← htx.out] at hl
          obtain ⟨al, capl, rfl⟩ := hl.form
          have k0 := k0.step hbi
          have k1 := k1.step hbi
          have k2 := k2.step hbi
          have hown := hown.below hbi
          have hnx := hnx.trans (hbi.mono (by omega))
          clear c0 c1 c2 c3 c4 c5 lt0 lt1 lt2 d0 ld kl
          have lt2 := k2.lt
          have c4 := k2.cell 0
          simp only [Zga, Zgb, Zgc] at c4
          replace hpos := hpos.out
          replace hle := hle.out
          replace hget := hget.out
          replace hds := hds.out
          have hmx := Nat.mod_lt y hpos
          have hmi : ((y : Int) % ((textsAt d k).length : Int)) = ((y % (textsAt d k).length : Nat) : Int) := rfl
          have hmt : ((y : Int).tmod ((textsAt d k).length : Int)) = ((y % (textsAt d k).length : Nat) : Int) := rfl
          have hdi : ((y : Int) / ((textsAt d k).length : Int)) = ((y / (textsAt d k).length : Nat) : Int) := rfl
          have hdt : ((y : Int).tdiv ((textsAt d k).length : Int)) = ((y / (textsAt d k).length : Nat) : Int) := rfl
          rw [← hds] at hdi hdt
          generalize hye : drawAt d x (k + 1) = y2 at *
          replace hye := hid hye
          obtain ⟨bl, offl, rfl, z0⟩ := RL.at1 (fun x => .string x) (fun _ => rfl) hl.reads hmx
          rw [hget] at z0
          clear hget
          replace hds := hid hds
          generalize y % (textsAt d k).length = q at *
          generalize crashAt d x k = t at *
          generalize textsAt d k = ls at *
          have hne0 : ((ls.length : Int) == 0) = false := beq_eq_false_iff_ne.2 (by omega)
          have hm := hml.out
          obtain ⟨g, cap4, hv, hgb, hgl, hgc, hpk⟩ := hown.poke strC_flat (k := k) (by omega)
          simp only [Value.slice.injEq] at hv
          obtain ⟨rfl, _, rfl⟩ := hv
          obtain ⟨z2, z3⟩ := hgc 0 (by decide)
          replace hpk := hpk 0 t (.string t) (by decide) rfl
          rw [hset.out, Nat.mul_one, Nat.add_zero] at hpk
          simp only [Nat.mul_one, Nat.add_zero, strC, List.getElem?_cons_zero] at z2 z3
          replace hpk := hid hpk
          have hne := og.out g rfl
          have hm3 : k < M.length := by omega
          obtain ⟨old, hold⟩ : ∃ o, M[k] = o := ⟨_, rfl⟩
          rw [hold] at z3
          clear hold hm hown hgc hm3
          have hq2 : (q : Int) < (ls.length : Int) := by omega
          have hk2 : (k : Int) < (d.safe.length : Int) := by omega
          have lz0 := World.block_lt_of_cell? _ _ z0
          dsimp only at lz0
          have hy0 : (y : Int) ≤ 9223372036854775807 := by omega
          have hys : y2 ≤ y := by rw [hds.out]; exact Nat.div_le_self _ _
          have hy2 : IntKind.i64.wrap (y2 : Int) = y2 := IntWalk.i64_in _ (by omega)
          go_wp2
          go_region
          all_goals
            go_wp2
            go_roundw
            case rel => exact ⟨k + 1, by omega, by go_num, by rw [hye.out], hpk.out, k0.drew.set_other _ _ (by simp; omega), k1.drew.set_other _ _ (by simp; omega), k2.drew.set_other _ _ (by simp; omega), hnx.drew.setCell (by simp; omega) _⟩
            case measure => simp [intOf]; omega
    · obtain rfl : k = d.safe.length := by omega
      rw [hmf.out] at hown
      have f1 := k1.free 0
      have f2 := k1.free 1
      have hcl2 := hcl.out
      go_wp2
      have hF : Below w.heap.size w ((wo.setCell ⟨w.heap.size + 1, 0, none⟩ (.slice a3 d.safe.length cap3)).setCell ⟨w.heap.size + 1, 1, none⟩ (.slice none 0 0)) := (hnx.setCell (by simp) _).setCell (by simp) _
      have ho := (hown.setCell (p := ⟨w.heap.size + 1, 0, none⟩) (by simp; omega) (.slice a3 d.safe.length cap3)).setCell (p := ⟨w.heap.size + 1, 1, none⟩) (by simp; omega) (.slice none 0 0)
      refine bodyPost_ret (v := .tuple #[.agg #[.slice a3 d.safe.length cap3, .slice none 0 0], .int .i64 0]) (by simp [results, Tryz.results31, go_sem, c2, c3]) rfl ⟨_, rfl, ⟨_, _, rfl, ho.reads, RL.nil _ _, by rw [hcl.out]; exact n1, by simp⟩, ⟨_, _, _, _, rfl, rfl, ho.slot (by omega), .nil⟩, hF⟩
theorem disk_CrashN (d : Dsk) (draw : Int) (v : Value) (w : World) (hd : RDisk w v d) (hx : draw ≤ 9223372036854775807) :
    Calls Tryz.prog 31 #[v, .int .i64 draw] w fun e w' => ∃ v', e = .returned (.tuple #[v', .int .i64 (crashE d draw)]) ∧ RDisk w' v' (crashD d draw) ∧ NewD w.heap.size w' v v' d (crashD d draw) ∧ Below w.heap.size w w' := by
  by_cases h : goodD d = true ∧ 0 ≤ draw
  · obtain ⟨hg, h0⟩ := h
    have he : crashE d draw = 0 := by unfold crashE; rw [if_pos ⟨hg, h0⟩]
    have hv : crashD d draw = ⟨crashL d draw.toNat d.safe.length, []⟩ := by unfold crashD; rw [if_pos ⟨hg, h0⟩]
    rw [he, hv]
    have := disk_Crash_good d draw.toNat v w hd hg (by omega)
    rwa [Int.toNat_of_nonneg h0] at this
  · exact disk_Crash_bad d draw v w hd h
end Go.Proofs.YtjhmfljlclajnabGreatDoor
