/- Parts of the proof: JwH. -/
import Derived.Test.YtjhmfljlclajnadGreatDoorKTopOrdered6
import Derived.Deep.CutBlock
set_option linter.unusedVariables false
set_option linter.unusedSimpArgs false
set_option maxRecDepth 100000
set_option maxHeartbeats 40000000
namespace Wb
open Go Go.RowKit
theorem begT_eq' (t : Txn) (h n f : Int) : (begT t h n f).mt = t.mt /\ (begT t h n f).dt = t.dt /\ (begT t h n f).rev = t.rev := by
 unfold begT; split
 ·exact (setH_same _ _ _).2
 ·exact ⟨rfl, rfl, rfl⟩
theorem stopT_eq' (t : Txn) (h : Int) : (stopT t h).mt = t.mt /\ (stopT t h).dt = t.dt /\ (stopT t h).rev = t.rev := by
 unfold stopT; split
 ·exact (setH_same _ _ _).2
 ·exact ⟨rfl, rfl, rfl⟩
theorem upd_roles (v : JV) (j : Jn) {k : Nat} (hk : k < 12) (x : Int) : upd (27 + k) [.int .i64 x] (jCells v j) = jCells v { j with roles := setF j.roles k x } := by
 have h : k = 0 \/ k = 1 \/ k = 2 \/ k = 3 \/ k = 4 \/ k = 5 \/ k = 6 \/ k = 7 \/ k = 8 \/ k = 9 \/ k = 10 \/ k = 11 := by omega
 rcases h with rfl | rfl | rfl | rfl | rfl | rfl | rfl | rfl | rfl | rfl | rfl | rfl <;> rfl
theorem upd_freed (v : JV) (j : Jn) {k : Nat} (hk : k < 12) (x : Int) : upd (39 + k) [.int .i64 x] (jCells v j) = jCells v { j with freed := setF j.freed k x } := by
 have h : k = 0 \/ k = 1 \/ k = 2 \/ k = 3 \/ k = 4 \/ k = 5 \/ k = 6 \/ k = 7 \/ k = 8 \/ k = 9 \/ k = 10 \/ k = 11 := by omega
 rcases h with rfl | rfl | rfl | rfl | rfl | rfl | rfl | rfl | rfl | rfl | rfl | rfl <;> rfl
theorem blk_of2 {t : Txn} {h b : Int} {s : ByteArray} (h1 : chgE t h b s = 0) : isBlk b = true := by
 unfold chgE at h1
 split at h1
 ·rename_i h2; exact absurd h1 h2
 ·rename_i h2; exact (may_zero (Decidable.byContradiction h2)).2.2.2
theorem blk_of3 {t : Txn} {h b : Int} {s : ByteArray} (h1 : filE t h b s = 0) : isBlk b = true := by
 unfold filE at h1
 split at h1
 ·rename_i h2; exact absurd h1 h2
 ·rename_i h2; exact (may_zero (Decidable.byContradiction h2)).2.2.2
theorem blk_of4 {t : Txn} {h b : Int} (h1 : rvkE t h b = 0) : isBlk b = true := by
 unfold rvkE at h1
 split at h1
 ·rename_i h2; exact absurd h1 h2
 ·rename_i h2; exact (may_zero (Decidable.byContradiction h2)).2.2.2
theorem alt_blk {j : Jn} {a : Aj} (hk : a.kind = 2 \/ a.kind = 3 \/ a.kind = 4) (he : altE j a = 0) : isBlk a.b = true := by
 have or0 : ∀ {e : Int} {c : Prop} [Decidable c] {f : Int}, f ≠ 0 -> orE e c f = 0 -> e = 0 := fun hf h => by
  unfold orE at h
  split at h
  ·exact absurd h hf
  ·exact h
 unfold altE at he
 rcases hk with hk | hk | hk
 ·rw [if_neg (by omega), if_neg (by omega), if_pos hk] at he
  have h1 := or0 (by decide) he
  unfold chgE at h1
  split at h1
  ·rename_i h2; exact absurd h1 h2
  ·rename_i h2; exact (may_zero (Decidable.byContradiction h2)).2.2.2
 ·rw [if_neg (by omega), if_neg (by omega), if_neg (by omega), if_pos hk] at he
  have h1 := or0 (by decide) (or0 (by decide) he)
  unfold filE at h1
  split at h1
  ·rename_i h2; exact absurd h1 h2
  ·rename_i h2; exact (may_zero (Decidable.byContradiction h2)).2.2.2
 ·rw [if_neg (by omega), if_neg (by omega), if_neg (by omega), if_neg (by omega), if_pos hk] at he
  have h1 := or0 (by decide) he
  unfold rvkE at h1
  split at h1
  ·rename_i h2; exact absurd h1 h2
  ·rename_i h2; exact (may_zero (Decidable.byContradiction h2)).2.2.2
end Wb
namespace Go.Proofs.YtjhmfljlclajnadGreatDoor
open Go.RowKit Wb
theorem jr_change (K : JK) {S : List Nat} {w0 w : World} {L : List Ent} {R : List Rd} {gj : Nat} {j : Jn} {M : List Ent} {Rj : List Rd} (F : JF gj j M Rj) (X : St S w0 w (M ++ L) (Rj ++ R)) (a : Aj) (hs : a.text.size <= 9223372036854775807) (hkd : 1 <= a.kind /\ a.kind <= 5) (hd : j.down = false) :
    Calls Tryz.prog 31 #[.pointer (some ⟨gj, 0, none⟩), .agg #[.int .i64 a.kind, .int .i64 a.h, .int .i64 a.b, .int .i64 a.n, .string a.text]] w fun e w' => ∃ M' Rj', e = .returned (.int .i64 (changeJ j a).2) /\ JF gj (changeJ j a).1 M' Rj' /\ St S w0 w' (M' ++ L) (Rj' ++ R) := by
 obtain ⟨v, ds, fs, MD, MU, hm, rfl, rfl⟩ := F
 have hsz := hm.inv.sz hm.sz
 have hI := inv_change a hd hm.inv
 have hng := ((inv_seen hm.inv).2 hd).1
 have hgr := (goodR_iff _).1 (inv_seen hm.inv).1
 rw [List.cons_append, List.append_assoc] at X
 unfold jCells at X
 have hFit := fun w => K.fit a.text w hs
 have hro := fun {n : Nat} (h : n < 12) => nth_roles v j h
 have hfr := fun {n : Nat} (h : n < 12) => nth_freed v j h
 generalize hft : fit a.text = ft at *
 replace hFit := hid hFit; replace hm := hid hm; replace hsz := hid hsz; replace hI := hid hI; replace hft := hid hft
 obtain ⟨role, hrole⟩ : ∃ role, roleJ j a.b = role := ⟨_, rfl⟩
 replace hrole := hid hrole
 obtain ⟨E, hE⟩ : ∃ E, altE j a = E := ⟨_, rfl⟩
 obtain ⟨T, hTT⟩ : ∃ T, altT j a = T := ⟨_, rfl⟩
 obtain ⟨TO, hTO⟩ : ∃ TO, altTo j a = TO := ⟨_, rfl⟩
 have hE9 := hid hE
 have hTT9 := hid hTT
 have hTO9 := hid hTO
 replace hE := hid hE; replace hTT := hid hTT; replace hTO := hid hTO; replace hng := hid hng; replace hgr := hgr
 have hks : a.kind = 1 \/ a.kind = 2 \/ a.kind = 3 \/ a.kind = 4 \/ a.kind = 5 := by omega
 by_cases hb : 0 <= a.b /\ a.b < 12
 ·obtain ⟨n, hn⟩ : ∃ n : Nat, a.b = n := ⟨a.b.toNat, by omega⟩
  have hn12 : n < 12 := by omega
  have hr0 := hro hn12
  have hrl : j.roles n = role := by rw [<- hrole.out]; unfold roleJ; rw [if_pos (show isBlk a.b = true from decide_eq_true hb), hn]
  rw [hrl] at hr0
  replace hrl := hid hrl
  clear hb
  rw [hn]
  go_enter Tryz.func31, Tryz.ntmps31
  go_upto_region 1 with (first
   | (refine Zbx ?_; clear X; intro g w X))
  go_upto_region 6 with (first
   | (refine ZyL ?_) | (refine ZyS ?_; clear X; intro w X) | (refine ZyA ?_; clear X; intro g w X)
   | (go_at_call 11; ((with_reducible refine (hFit.out _).mono ?_); rintro e w1 ⟨rfl, hb1⟩; replace X := X.call hb1; clear hb1)))
  (refine q_startS 3 [] [] [2, 6] [0, 1, 2, 3, 4, 5, 6, 7] X ?_; clear X; intro hQ X hL; simp only [zF, zG] at hL; simp only [zF, zG])
  refine Zm ?_
  refine Zf ?_
  refine Zl ?_
  refine Zn ?_
  refine Zf ?_
  refine Zg ?_
  ((refine d_load1 rfl rfl Zev (by first | exact ReadA.here hr0 | exact ReadA.there (ReadA.here hr0) | exact ReadA.there (ReadA.there (ReadA.here hr0))) rfl rfl X hL hQ ?_); (simp only [Act.put, zA, zB, zC, zD, zE, zF, zG, Nat.reduceAdd]))
  refine Za ?_
  refine q_nil ?_
  go_upto_block 0 with (first
   | (refine ZyL ?_) | (refine ZyS ?_; clear X; intro w X) | (refine ZyA ?_; clear X; intro g w X)
   | (go_at_call 11; ((with_reducible refine (hFit.out _).mono ?_); rintro e w1 ⟨rfl, hb1⟩; replace X := X.call hb1; clear hb1)))
  obtain ⟨g5, g3, rfl, rfl⟩ := X.nm2
  go_cut [6, 9] (fun s6 s9 wx => ∃ (am ad ar : Option Addr) (nm nd nr cm cd cr : Nat), s6 = .int .i64 E /\ s9 = .int .i64 TO /\ St S w0 wx (⟨g5, [.int .i64 T.seq, .slice am nm cm, .slice ad nd cd, .slice ar nr cr, .bool T.h0.on, .int .i64 T.h0.left, .bool T.h1.on, .int .i64 T.h1.left, .bool T.h2.on, .int .i64 T.h2.left], 43⟩ :: ⟨g3, [.int .i64 a.kind, .int .i64 a.h, .int .i64 n, .int .i64 a.n, .string a.text], 29⟩ :: ⟨gj, jCells v j, 71⟩ :: (MD ++ (MU ++ L))) (Rd.of cpyC (.slice am nm cm) T.mt :: Rd.of cpyC (.slice ad nd cd) T.dt :: Rd.of intC (.slice ar nr cr) T.rev :: (jRds v j ds fs ++ R)))
  case first =>
   rcases hks with hk | hk | hk | hk | hk
   ·have hBg := fun w h => K.beg j.now a.h a.n (24 - j.ring.used) (.slice v.nm.a j.now.mt.length v.nm.c) (.slice v.nd.a j.now.dt.length v.nd.c) (.slice v.nr.a j.now.rev.length v.nr.c) w h
    have hFr := fun w => K.free j.ring w hgr.2.2.1 hgr.2.2.2
    unfold Ring.val at hFr
    have eE : begE j.now a.h a.n (24 - j.ring.used) = E := by rw [<- hE.out]; unfold altE; rw [if_pos hk]; rfl
    have eT : begT j.now a.h a.n (24 - j.ring.used) = T := by rw [<- hTT.out]; unfold altT; rw [if_pos hk]; rfl
    have hT := begT_eq' j.now a.h a.n (24 - j.ring.used)
    rw [eT] at hT
    rw [eE, eT] at hBg
    obtain rfl : TO = role := by rw [<- hTO.out, <- hrole.out]; unfold altTo; rw [if_neg (by omega), if_neg (by omega), if_neg (by omega)]
    simp only [txnV] at hBg
    replace hBg := hid hBg; replace hFr := hid hFr; replace hT := hid hT
    clear eE eT hE hTT hTO hrole
    have q1 : (a.kind == 1) = true := by rw [hk]; rfl
    clear hk
    go_wp2_with (first
     | (refine ZyL ?_) | (refine ZyS ?_; clear X; intro w X) | (refine ZyA ?_; clear X; intro g w X))
    have X9 := X.perm ((List.perm_append_comm (l₁ := [_]) (l₂ := [_, _])).append_right _)
    simp only [List.cons_append, List.nil_append] at X9
    clear X
    have X := X9
    clear X9
    (refine q_startS 2 [] [12, 13, 17] [3, 5, 7, 11] [0, 1, 2, 3, 4, 5, 6, 7, 8, 9, 10, 11, 12, 13, 14, 15, 16, 17, 18] X ?_; clear X; intro hQ X hL; simp only [zF, zG] at hL; simp only [zF, zG])
    refine Zm ?_
    refine Zn ?_
    refine Zf ?_
    refine Zl ?_
    refine Zf ?_
    refine Zl ?_
    refine Zf ?_
    refine Zl ?_
    refine Zm ?_
    refine Zn ?_
    refine Zf ?_
    refine Zl ?_
    (refine q_callS 60 Tryz.func60 (hFr.out _) ?_; rintro e w1 ⟨rfl, hb1⟩; replace X := X.call hb1; clear hb1; refine Zce ?_; clear hL; intro hL)
    (refine q_callS 59 Tryz.func59 (hBg.out _ (X.jNow hsz.out (fun r hr => List.mem_append_left _ hr))) ?_; rintro e w1 ⟨rfl, hb1⟩; replace X := X.call hb1; clear hb1; refine Zce ?_; clear hL; intro hL)
    refine Zm ?_
    refine Zx ?_
    refine Zx ?_
    (refine Zs ?_; clear hL X; intro w X hL)
    refine Za ?_
    refine q_nil ?_
    replace hT := hT.out
    have X9 := X.perm ((List.perm_append_comm (l₁ := [_, _]) (l₂ := [_])).append_right _)
    simp only [List.cons_append, List.nil_append] at X9
    clear X
    have X := X9
    clear X9
    go_wp2
    go_meet
    exact ⟨_, _, _, _, _, _, _, _, _, rfl, rfl, (X.rds (fun r hr => (List.mem_cons.1 hr).elim (fun h => by rw [h, hT.1]; exact Zfl) (fun hr => (List.mem_cons.1 hr).elim (fun h => by rw [h, hT.2.1]; exact Zfl) (fun hr => (List.mem_cons.1 hr).elim (fun h => by rw [h, hT.2.2]; exact Zfl) (fun hr => hr)))))⟩
   ·have hAl := fun w h => K.chg j.now a.h a.b ft (.slice v.nm.a j.now.mt.length v.nm.c) (.slice v.nd.a j.now.dt.length v.nd.c) (.slice v.nr.a j.now.rev.length v.nr.c) w h
    have eT : chgT j.now a.h a.b ft = T := by rw [<- hTT.out]; unfold altT; rw [if_neg (by omega), if_neg (by omega), if_pos hk, hft.out]
    have eE : E = orE (chgE j.now a.h a.b ft) (role = 2) 8 := by rw [<- hE.out]; unfold altE; rw [if_neg (by omega), if_neg (by omega), if_pos hk, hft.out, hrole.out]
    rw [eT] at hAl
    obtain rfl : TO = 1 := by rw [<- hTO.out]; unfold altTo; rw [if_pos hk]
    simp only [txnV] at hAl
    have hblk : chgE j.now a.h a.b ft = 0 -> 0 <= a.b /\ a.b < 12 := fun h => of_decide_eq_true (blk_of2 h)
    clear eT hE hTT hTO hrole
    have q1 : (a.kind == 1) = false := by rw [hk]; rfl
    have q5 : (a.kind == 5) = false := by rw [hk]; rfl
    have q2 : (a.kind == 2) = true := by rw [hk]; rfl
    clear hk
    unfold orE at eE
    rw [hn] at hAl eE hblk
    generalize chgE j.now a.h n ft = c at *
    by_cases hc : c = 0
    ·rw [hc] at hAl eE
     clear hc hblk
     replace hAl := hid hAl
     by_cases hr : role = 2
     ·obtain rfl : E = 8 := by rw [eE]; simp [hr]
      clear eE
      have r0 : (role == 2) = true := by simpa using hr
      clear hr
      go_wp2_with (first
       | (refine ZyL ?_) | (refine ZyS ?_; clear X; intro w X) | (refine ZyA ?_; clear X; intro g w X))
      have X9 := X.perm ((List.perm_append_comm (l₁ := [_]) (l₂ := [_, _])).append_right _)
      simp only [List.cons_append, List.nil_append] at X9
      clear X
      have X := X9
      clear X9
      (refine q_startS 2 [] [9, 13] [3, 5, 7] [0, 1, 2, 3, 4, 5, 6, 7, 8, 9, 10, 11, 12, 13, 14] X ?_; clear X; intro hQ X hL; simp only [zF, zG] at hL; simp only [zF, zG])
      refine Zm ?_
      refine Zn ?_
      refine Zf ?_
      refine Zl ?_
      refine Zf ?_
      refine Zl ?_
      refine Zf ?_
      refine Zl ?_
      refine Zm ?_
      (refine q_callS 62 Tryz.func62 (hAl.out _ (X.jNow hsz.out (fun r hr => List.mem_append_left _ hr))) ?_; rintro e w1 ⟨vm', vd', vr', rfl, hN, hb1⟩; replace X := X.addT hb1 hN Zfl Zfl Zfl; clear hb1 hN; obtain ⟨am, cm, rfl, _⟩ := X.r0.form; obtain ⟨ad, cd, rfl, _⟩ := X.r1.form; obtain ⟨ar, cr, rfl, _⟩ := X.r2.form; refine Zce ?_; clear hL; intro hL)
      refine Zm ?_
      refine Zx ?_
      refine Zx ?_
      (refine Zs ?_; clear hL X; intro w X hL)
      refine Za ?_
      refine q_nil ?_
      have X9 := X.perm ((List.perm_append_comm (l₁ := [_, _]) (l₂ := [_])).append_right _)
      simp only [List.cons_append, List.nil_append] at X9
      clear X
      have X := X9
      clear X9
      go_wp2_with (first
       | (refine ZyL ?_) | (refine ZyS ?_; clear X; intro w X) | (refine ZyA ?_; clear X; intro g w X))
      go_meet
      exact ⟨_, _, _, _, _, _, _, _, _, rfl, rfl, X⟩
     ·have r0 : (role == 2) = false := beq_eq_false_iff_ne.2 hr
      rw [if_neg (show ¬ ((0 : Int) = 0 /\ role = 2) from fun h => hr h.2)] at eE
      clear hr
      obtain rfl : E = 0 := eE
      go_wp2_with (first
       | (refine ZyL ?_) | (refine ZyS ?_; clear X; intro w X) | (refine ZyA ?_; clear X; intro g w X))
      have X9 := X.perm ((List.perm_append_comm (l₁ := [_]) (l₂ := [_, _])).append_right _)
      simp only [List.cons_append, List.nil_append] at X9
      clear X
      have X := X9
      clear X9
      (refine q_startS 2 [] [9, 13] [3, 5, 7] [0, 1, 2, 3, 4, 5, 6, 7, 8, 9, 10, 11, 12, 13, 14] X ?_; clear X; intro hQ X hL; simp only [zF, zG] at hL; simp only [zF, zG])
      refine Zm ?_
      refine Zn ?_
      refine Zf ?_
      refine Zl ?_
      refine Zf ?_
      refine Zl ?_
      refine Zf ?_
      refine Zl ?_
      refine Zm ?_
      (refine q_callS 62 Tryz.func62 (hAl.out _ (X.jNow hsz.out (fun r hr => List.mem_append_left _ hr))) ?_; rintro e w1 ⟨vm', vd', vr', rfl, hN, hb1⟩; replace X := X.addT hb1 hN Zfl Zfl Zfl; clear hb1 hN; obtain ⟨am, cm, rfl, _⟩ := X.r0.form; obtain ⟨ad, cd, rfl, _⟩ := X.r1.form; obtain ⟨ar, cr, rfl, _⟩ := X.r2.form; refine Zce ?_; clear hL; intro hL)
      refine Zm ?_
      refine Zx ?_
      refine Zx ?_
      (refine Zs ?_; clear hL X; intro w X hL)
      refine Za ?_
      refine q_nil ?_
      have X9 := X.perm ((List.perm_append_comm (l₁ := [_, _]) (l₂ := [_])).append_right _)
      simp only [List.cons_append, List.nil_append] at X9
      clear X
      have X := X9
      clear X9
      go_wp2_with (first
       | (refine ZyL ?_) | (refine ZyS ?_; clear X; intro w X) | (refine ZyA ?_; clear X; intro g w X))
      go_meet
      exact ⟨_, _, _, _, _, _, _, _, _, rfl, rfl, X⟩
    ·have c0 : (c == 0) = false := beq_eq_false_iff_ne.2 hc
     obtain rfl : E = c := by rw [eE]; simp [hc]
     clear eE hc hblk
     replace hAl := hid hAl
     go_wp2_with (first
      | (refine ZyL ?_) | (refine ZyS ?_; clear X; intro w X) | (refine ZyA ?_; clear X; intro g w X))
     have X9 := X.perm ((List.perm_append_comm (l₁ := [_]) (l₂ := [_, _])).append_right _)
     simp only [List.cons_append, List.nil_append] at X9
     clear X
     have X := X9
     clear X9
     (refine q_startS 2 [] [9, 13] [3, 5, 7] [0, 1, 2, 3, 4, 5, 6, 7, 8, 9, 10, 11, 12, 13, 14] X ?_; clear X; intro hQ X hL; simp only [zF, zG] at hL; simp only [zF, zG])
     refine Zm ?_
     refine Zn ?_
     refine Zf ?_
     refine Zl ?_
     refine Zf ?_
     refine Zl ?_
     refine Zf ?_
     refine Zl ?_
     refine Zm ?_
     (refine q_callS 62 Tryz.func62 (hAl.out _ (X.jNow hsz.out (fun r hr => List.mem_append_left _ hr))) ?_; rintro e w1 ⟨vm', vd', vr', rfl, hN, hb1⟩; replace X := X.addT hb1 hN Zfl Zfl Zfl; clear hb1 hN; obtain ⟨am, cm, rfl, _⟩ := X.r0.form; obtain ⟨ad, cd, rfl, _⟩ := X.r1.form; obtain ⟨ar, cr, rfl, _⟩ := X.r2.form; refine Zce ?_; clear hL; intro hL)
     refine Zm ?_
     refine Zx ?_
     refine Zx ?_
     (refine Zs ?_; clear hL X; intro w X hL)
     refine Za ?_
     refine q_nil ?_
     have X9 := X.perm ((List.perm_append_comm (l₁ := [_, _]) (l₂ := [_])).append_right _)
     simp only [List.cons_append, List.nil_append] at X9
     clear X
     have X := X9
     clear X9
     go_wp2_with (first
      | (refine ZyL ?_) | (refine ZyS ?_; clear X; intro w X) | (refine ZyA ?_; clear X; intro g w X))
     go_meet
     exact ⟨_, _, _, _, _, _, _, _, _, rfl, rfl, X⟩
   ·have hAl := fun w h => K.fil j.now a.h a.b ft (.slice v.nm.a j.now.mt.length v.nm.c) (.slice v.nd.a j.now.dt.length v.nd.c) (.slice v.nr.a j.now.rev.length v.nr.c) w h
    have eT : filT j.now a.h a.b ft = T := by rw [<- hTT.out]; unfold altT; rw [if_neg (by omega), if_neg (by omega), if_neg (by omega), if_pos hk, hft.out]
    have eE : E = orE (orE (filE j.now a.h a.b ft) (role = 1) 8) (j.last < j.freed a.b) 9 := by rw [<- hE.out]; unfold altE; rw [if_neg (by omega), if_neg (by omega), if_neg (by omega), if_pos hk, hft.out, hrole.out]
    rw [eT] at hAl
    obtain rfl : TO = 2 := by rw [<- hTO.out]; unfold altTo; rw [if_neg (by omega), if_pos hk]
    simp only [txnV] at hAl
    have hblk : filE j.now a.h a.b ft = 0 -> 0 <= a.b /\ a.b < 12 := fun h => of_decide_eq_true (blk_of3 h)
    clear eT hE hTT hTO hrole
    have q1 : (a.kind == 1) = false := by rw [hk]; rfl
    have q5 : (a.kind == 5) = false := by rw [hk]; rfl
    have q2 : (a.kind == 2) = false := by rw [hk]; rfl
    have q3 : (a.kind == 3) = true := by rw [hk]; rfl
    clear hk
    unfold orE at eE
    rw [hn] at hAl eE hblk
    generalize filE j.now a.h n ft = c at *
    by_cases hc : c = 0
    ·rw [hc] at hAl eE
     clear hc hblk
     replace hAl := hid hAl
     by_cases hr : role = 1
     ·obtain rfl : E = 8 := by rw [eE]; simp [hr]
      clear eE
      have r0 : (role == 1) = true := by simpa using hr
      clear hr
      go_wp2_with (first
       | (refine ZyL ?_) | (refine ZyS ?_; clear X; intro w X) | (refine ZyA ?_; clear X; intro g w X))
      have X9 := X.perm ((List.perm_append_comm (l₁ := [_]) (l₂ := [_, _])).append_right _)
      simp only [List.cons_append, List.nil_append] at X9
      clear X
      have X := X9
      clear X9
      (refine q_startS 2 [] [9, 13] [3, 5, 7] [0, 1, 2, 3, 4, 5, 6, 7, 8, 9, 10, 11, 12, 13, 14] X ?_; clear X; intro hQ X hL; simp only [zF, zG] at hL; simp only [zF, zG])
      refine Zm ?_
      refine Zn ?_
      refine Zf ?_
      refine Zl ?_
      refine Zf ?_
      refine Zl ?_
      refine Zf ?_
      refine Zl ?_
      refine Zm ?_
      (refine q_callS 63 Tryz.func63 (hAl.out _ (X.jNow hsz.out (fun r hr => List.mem_append_left _ hr))) ?_; rintro e w1 ⟨vm', vd', vr', rfl, hN, hb1⟩; replace X := X.addT hb1 hN Zfl Zfl Zfl; clear hb1 hN; obtain ⟨am, cm, rfl, _⟩ := X.r0.form; obtain ⟨ad, cd, rfl, _⟩ := X.r1.form; obtain ⟨ar, cr, rfl, _⟩ := X.r2.form; refine Zce ?_; clear hL; intro hL)
      refine Zm ?_
      refine Zx ?_
      refine Zx ?_
      (refine Zs ?_; clear hL X; intro w X hL)
      refine Za ?_
      refine q_nil ?_
      have X9 := X.perm ((List.perm_append_comm (l₁ := [_, _]) (l₂ := [_])).append_right _)
      simp only [List.cons_append, List.nil_append] at X9
      clear X
      have X := X9
      clear X9
      go_wp2_with (first
       | (refine ZyL ?_) | (refine ZyS ?_; clear X; intro w X) | (refine ZyA ?_; clear X; intro g w X))
      (refine q_startS 3 [] [] [5, 9, 13] [0, 1, 2, 3, 4, 5, 6, 7, 8, 9, 10, 11, 12, 13, 14, 15] X ?_; clear X; intro hQ X hL; simp only [zF, zG] at hL; simp only [zF, zG])
      refine Zm ?_
      refine Zg ?_
      refine Zm ?_
      refine Zk ?_
      refine Zk ?_
      refine Zk ?_
      refine Zk ?_
      refine Zk ?_
      refine Zk ?_
      refine Zk ?_
      refine Zk ?_
      refine Zk ?_
      refine Zk ?_
      refine Zk ?_
      refine Zk ?_
      refine Zg ?_
      refine q_nil ?_
      go_wp2_with (first
       | (refine ZyL ?_) | (refine ZyS ?_; clear X; intro w X) | (refine ZyA ?_; clear X; intro g w X))
      go_meet
      exact ⟨_, _, _, _, _, _, _, _, _, rfl, rfl, X⟩
     ·have r0 : (role == 1) = false := beq_eq_false_iff_ne.2 hr
      rw [if_neg (show ¬ ((0 : Int) = 0 /\ role = 1) from fun h => hr h.2)] at eE
      clear hr
      have hf0 := hfr hn12
      by_cases hl : j.last < j.freed n
      ·obtain rfl : E = 9 := by rw [eE]; simp [hl]
       clear eE
       go_wp2_with (first
        | (refine ZyL ?_) | (refine ZyS ?_; clear X; intro w X) | (refine ZyA ?_; clear X; intro g w X))
       have X9 := X.perm ((List.perm_append_comm (l₁ := [_]) (l₂ := [_, _])).append_right _)
       simp only [List.cons_append, List.nil_append] at X9
       clear X
       have X := X9
       clear X9
       (refine q_startS 2 [] [9, 13] [3, 5, 7] [0, 1, 2, 3, 4, 5, 6, 7, 8, 9, 10, 11, 12, 13, 14] X ?_; clear X; intro hQ X hL; simp only [zF, zG] at hL; simp only [zF, zG])
       refine Zm ?_
       refine Zn ?_
       refine Zf ?_
       refine Zl ?_
       refine Zf ?_
       refine Zl ?_
       refine Zf ?_
       refine Zl ?_
       refine Zm ?_
       (refine q_callS 63 Tryz.func63 (hAl.out _ (X.jNow hsz.out (fun r hr => List.mem_append_left _ hr))) ?_; rintro e w1 ⟨vm', vd', vr', rfl, hN, hb1⟩; replace X := X.addT hb1 hN Zfl Zfl Zfl; clear hb1 hN; obtain ⟨am, cm, rfl, _⟩ := X.r0.form; obtain ⟨ad, cd, rfl, _⟩ := X.r1.form; obtain ⟨ar, cr, rfl, _⟩ := X.r2.form; refine Zce ?_; clear hL; intro hL)
       refine Zm ?_
       refine Zx ?_
       refine Zx ?_
       (refine Zs ?_; clear hL X; intro w X hL)
       refine Za ?_
       refine q_nil ?_
       have X9 := X.perm ((List.perm_append_comm (l₁ := [_, _]) (l₂ := [_])).append_right _)
       simp only [List.cons_append, List.nil_append] at X9
       clear X
       have X := X9
       clear X9
       go_wp2_with (first
        | (refine ZyL ?_) | (refine ZyS ?_; clear X; intro w X) | (refine ZyA ?_; clear X; intro g w X))
       (refine q_startS 3 [] [] [5, 9, 13] [0, 1, 2, 3, 4, 5, 6, 7, 8, 9, 10, 11, 12, 13, 14, 15] X ?_; clear X; intro hQ X hL; simp only [zF, zG] at hL; simp only [zF, zG])
       refine Zm ?_
       refine Zg ?_
       refine Zm ?_
       refine Zm ?_
       refine Zf ?_
       refine Zl ?_
       refine Zn ?_
       refine Zf ?_
       refine Zg ?_
       ((refine d_load1 rfl rfl Zev (by first | exact ReadA.here hf0 | exact ReadA.there (ReadA.here hf0) | exact ReadA.there (ReadA.there (ReadA.here hf0))) rfl rfl X hL hQ ?_); (simp only [Act.put, zA, zB, zC, zD, zE, zF, zG, Nat.reduceAdd]))
       refine Zm ?_
       refine Zn ?_
       refine Zf ?_
       refine Zl ?_
       refine Zg ?_
       refine Zg ?_
       refine q_nil ?_
       go_wp2_with (first
        | (refine ZyL ?_) | (refine ZyS ?_; clear X; intro w X) | (refine ZyA ?_; clear X; intro g w X))
       go_meet
       exact ⟨_, _, _, _, _, _, _, _, _, rfl, rfl, X⟩
      ·obtain rfl : E = 0 := by rw [eE]; simp [hl]
       clear eE
       go_wp2_with (first
        | (refine ZyL ?_) | (refine ZyS ?_; clear X; intro w X) | (refine ZyA ?_; clear X; intro g w X))
       have X9 := X.perm ((List.perm_append_comm (l₁ := [_]) (l₂ := [_, _])).append_right _)
       simp only [List.cons_append, List.nil_append] at X9
       clear X
       have X := X9
       clear X9
       (refine q_startS 2 [] [9, 13] [3, 5, 7] [0, 1, 2, 3, 4, 5, 6, 7, 8, 9, 10, 11, 12, 13, 14] X ?_; clear X; intro hQ X hL; simp only [zF, zG] at hL; simp only [zF, zG])
       refine Zm ?_
       refine Zn ?_
       refine Zf ?_
       refine Zl ?_
       refine Zf ?_
       refine Zl ?_
       refine Zf ?_
       refine Zl ?_
       refine Zm ?_
       (refine q_callS 63 Tryz.func63 (hAl.out _ (X.jNow hsz.out (fun r hr => List.mem_append_left _ hr))) ?_; rintro e w1 ⟨vm', vd', vr', rfl, hN, hb1⟩; replace X := X.addT hb1 hN Zfl Zfl Zfl; clear hb1 hN; obtain ⟨am, cm, rfl, _⟩ := X.r0.form; obtain ⟨ad, cd, rfl, _⟩ := X.r1.form; obtain ⟨ar, cr, rfl, _⟩ := X.r2.form; refine Zce ?_; clear hL; intro hL)
       refine Zm ?_
       refine Zx ?_
       refine Zx ?_
       (refine Zs ?_; clear hL X; intro w X hL)
       refine Za ?_
       refine q_nil ?_
       have X9 := X.perm ((List.perm_append_comm (l₁ := [_, _]) (l₂ := [_])).append_right _)
       simp only [List.cons_append, List.nil_append] at X9
       clear X
       have X := X9
       clear X9
       go_wp2_with (first
        | (refine ZyL ?_) | (refine ZyS ?_; clear X; intro w X) | (refine ZyA ?_; clear X; intro g w X))
       (refine q_startS 3 [] [] [5, 9, 13] [0, 1, 2, 3, 4, 5, 6, 7, 8, 9, 10, 11, 12, 13, 14, 15] X ?_; clear X; intro hQ X hL; simp only [zF, zG] at hL; simp only [zF, zG])
       refine Zm ?_
       refine Zg ?_
       refine Zm ?_
       refine Zm ?_
       refine Zf ?_
       refine Zl ?_
       refine Zn ?_
       refine Zf ?_
       refine Zg ?_
       ((refine d_load1 rfl rfl Zev (by first | exact ReadA.here hf0 | exact ReadA.there (ReadA.here hf0) | exact ReadA.there (ReadA.there (ReadA.here hf0))) rfl rfl X hL hQ ?_); (simp only [Act.put, zA, zB, zC, zD, zE, zF, zG, Nat.reduceAdd]))
       refine Zm ?_
       refine Zn ?_
       refine Zf ?_
       refine Zl ?_
       refine Zg ?_
       refine Zg ?_
       refine q_nil ?_
       go_wp2_with (first
        | (refine ZyL ?_) | (refine ZyS ?_; clear X; intro w X) | (refine ZyA ?_; clear X; intro g w X))
       go_meet
       exact ⟨_, _, _, _, _, _, _, _, _, rfl, rfl, X⟩
    ·have c0 : (c == 0) = false := beq_eq_false_iff_ne.2 hc
     obtain rfl : E = c := by rw [eE]; simp [hc]
     clear eE hc hblk
     replace hAl := hid hAl
     go_wp2_with (first
      | (refine ZyL ?_) | (refine ZyS ?_; clear X; intro w X) | (refine ZyA ?_; clear X; intro g w X))
     have X9 := X.perm ((List.perm_append_comm (l₁ := [_]) (l₂ := [_, _])).append_right _)
     simp only [List.cons_append, List.nil_append] at X9
     clear X
     have X := X9
     clear X9
     (refine q_startS 2 [] [9, 13] [3, 5, 7] [0, 1, 2, 3, 4, 5, 6, 7, 8, 9, 10, 11, 12, 13, 14] X ?_; clear X; intro hQ X hL; simp only [zF, zG] at hL; simp only [zF, zG])
     refine Zm ?_
     refine Zn ?_
     refine Zf ?_
     refine Zl ?_
     refine Zf ?_
     refine Zl ?_
     refine Zf ?_
     refine Zl ?_
     refine Zm ?_
     (refine q_callS 63 Tryz.func63 (hAl.out _ (X.jNow hsz.out (fun r hr => List.mem_append_left _ hr))) ?_; rintro e w1 ⟨vm', vd', vr', rfl, hN, hb1⟩; replace X := X.addT hb1 hN Zfl Zfl Zfl; clear hb1 hN; obtain ⟨am, cm, rfl, _⟩ := X.r0.form; obtain ⟨ad, cd, rfl, _⟩ := X.r1.form; obtain ⟨ar, cr, rfl, _⟩ := X.r2.form; refine Zce ?_; clear hL; intro hL)
     refine Zm ?_
     refine Zx ?_
     refine Zx ?_
     (refine Zs ?_; clear hL X; intro w X hL)
     refine Za ?_
     refine q_nil ?_
     have X9 := X.perm ((List.perm_append_comm (l₁ := [_, _]) (l₂ := [_])).append_right _)
     simp only [List.cons_append, List.nil_append] at X9
     clear X
     have X := X9
     clear X9
     go_wp2_with (first
      | (refine ZyL ?_) | (refine ZyS ?_; clear X; intro w X) | (refine ZyA ?_; clear X; intro g w X))
     (refine q_startS 3 [] [] [5, 9, 13] [0, 1, 2, 3, 4, 5, 6, 7, 8, 9, 10, 11, 12, 13, 14, 15] X ?_; clear X; intro hQ X hL; simp only [zF, zG] at hL; simp only [zF, zG])
     refine Zm ?_
     refine Zg ?_
     refine Zm ?_
     refine Zk ?_
     refine Zk ?_
     refine Zk ?_
     refine Zk ?_
     refine Zk ?_
     refine Zk ?_
     refine Zk ?_
     refine Zk ?_
     refine Zk ?_
     refine Zk ?_
     refine Zk ?_
     refine Zk ?_
     refine Zg ?_
     refine q_nil ?_
     go_wp2_with (first
      | (refine ZyL ?_) | (refine ZyS ?_; clear X; intro w X) | (refine ZyA ?_; clear X; intro g w X))
     go_meet
     exact ⟨_, _, _, _, _, _, _, _, _, rfl, rfl, X⟩
   ·have hAl := fun w h => K.rvk j.now a.h a.b (.slice v.nm.a j.now.mt.length v.nm.c) (.slice v.nd.a j.now.dt.length v.nd.c) (.slice v.nr.a j.now.rev.length v.nr.c) w h
    have eT : rvkT j.now a.h a.b = T := by rw [<- hTT.out]; unfold altT; rw [if_neg (by omega), if_neg (by omega), if_neg (by omega), if_neg (by omega)]
    have eE : E = orE (rvkE j.now a.h a.b) (role = 0) 8 := by rw [<- hE.out]; unfold altE; rw [if_neg (by omega), if_neg (by omega), if_neg (by omega), if_neg (by omega), if_pos hk, hrole.out]
    rw [eT] at hAl
    obtain rfl : TO = 0 := by rw [<- hTO.out]; unfold altTo; rw [if_neg (by omega), if_neg (by omega), if_pos hk]
    simp only [txnV] at hAl
    have hblk : rvkE j.now a.h a.b = 0 -> 0 <= a.b /\ a.b < 12 := fun h => of_decide_eq_true (blk_of4 h)
    clear eT hE hTT hTO hrole
    have q1 : (a.kind == 1) = false := by rw [hk]; rfl
    have q5 : (a.kind == 5) = false := by rw [hk]; rfl
    have q2 : (a.kind == 2) = false := by rw [hk]; rfl
    have q3 : (a.kind == 3) = false := by rw [hk]; rfl
    have q4 : (a.kind == 4) = true := by rw [hk]; rfl
    clear hk
    unfold orE at eE
    rw [hn] at hAl eE hblk
    generalize rvkE j.now a.h n = c at *
    by_cases hc : c = 0
    ·rw [hc] at hAl eE
     clear hc hblk
     replace hAl := hid hAl
     by_cases hr : role = 0
     ·obtain rfl : E = 8 := by rw [eE]; simp [hr]
      clear eE
      have r0 : (role == 0) = true := by simpa using hr
      clear hr
      go_wp2_with (first
       | (refine ZyL ?_) | (refine ZyS ?_; clear X; intro w X) | (refine ZyA ?_; clear X; intro g w X))
      have X9 := X.perm ((List.perm_append_comm (l₁ := [_]) (l₂ := [_, _])).append_right _)
      simp only [List.cons_append, List.nil_append] at X9
      clear X
      have X := X9
      clear X9
      (refine q_startS 2 [] [8, 12] [3, 5, 7] [0, 1, 2, 3, 4, 5, 6, 7, 8, 9, 10, 11, 12, 13] X ?_; clear X; intro hQ X hL; simp only [zF, zG] at hL; simp only [zF, zG])
      refine Zm ?_
      refine Zn ?_
      refine Zf ?_
      refine Zl ?_
      refine Zf ?_
      refine Zl ?_
      refine Zf ?_
      refine Zl ?_
      (refine q_callS 64 Tryz.func64 (hAl.out _ (X.jNow hsz.out (fun r hr => List.mem_append_left _ hr))) ?_; rintro e w1 ⟨vm', vd', vr', rfl, hN, hb1⟩; replace X := X.addT hb1 hN Zfl Zfl Zfl; clear hb1 hN; obtain ⟨am, cm, rfl, _⟩ := X.r0.form; obtain ⟨ad, cd, rfl, _⟩ := X.r1.form; obtain ⟨ar, cr, rfl, _⟩ := X.r2.form; refine Zce ?_; clear hL; intro hL)
      refine Zm ?_
      refine Zx ?_
      refine Zx ?_
      (refine Zs ?_; clear hL X; intro w X hL)
      refine Za ?_
      refine q_nil ?_
      have X9 := X.perm ((List.perm_append_comm (l₁ := [_, _]) (l₂ := [_])).append_right _)
      simp only [List.cons_append, List.nil_append] at X9
      clear X
      have X := X9
      clear X9
      go_wp2_with (first
       | (refine ZyL ?_) | (refine ZyS ?_; clear X; intro w X) | (refine ZyA ?_; clear X; intro g w X))
      go_meet
      exact ⟨_, _, _, _, _, _, _, _, _, rfl, rfl, X⟩
     ·have r0 : (role == 0) = false := beq_eq_false_iff_ne.2 hr
      rw [if_neg (show ¬ ((0 : Int) = 0 /\ role = 0) from fun h => hr h.2)] at eE
      clear hr
      obtain rfl : E = 0 := eE
      go_wp2_with (first
       | (refine ZyL ?_) | (refine ZyS ?_; clear X; intro w X) | (refine ZyA ?_; clear X; intro g w X))
      have X9 := X.perm ((List.perm_append_comm (l₁ := [_]) (l₂ := [_, _])).append_right _)
      simp only [List.cons_append, List.nil_append] at X9
      clear X
      have X := X9
      clear X9
      (refine q_startS 2 [] [8, 12] [3, 5, 7] [0, 1, 2, 3, 4, 5, 6, 7, 8, 9, 10, 11, 12, 13] X ?_; clear X; intro hQ X hL; simp only [zF, zG] at hL; simp only [zF, zG])
      refine Zm ?_
      refine Zn ?_
      refine Zf ?_
      refine Zl ?_
      refine Zf ?_
      refine Zl ?_
      refine Zf ?_
      refine Zl ?_
      (refine q_callS 64 Tryz.func64 (hAl.out _ (X.jNow hsz.out (fun r hr => List.mem_append_left _ hr))) ?_; rintro e w1 ⟨vm', vd', vr', rfl, hN, hb1⟩; replace X := X.addT hb1 hN Zfl Zfl Zfl; clear hb1 hN; obtain ⟨am, cm, rfl, _⟩ := X.r0.form; obtain ⟨ad, cd, rfl, _⟩ := X.r1.form; obtain ⟨ar, cr, rfl, _⟩ := X.r2.form; refine Zce ?_; clear hL; intro hL)
      refine Zm ?_
      refine Zx ?_
      refine Zx ?_
      (refine Zs ?_; clear hL X; intro w X hL)
      refine Za ?_
      refine q_nil ?_
      have X9 := X.perm ((List.perm_append_comm (l₁ := [_, _]) (l₂ := [_])).append_right _)
      simp only [List.cons_append, List.nil_append] at X9
      clear X
      have X := X9
      clear X9
      go_wp2_with (first
       | (refine ZyL ?_) | (refine ZyS ?_; clear X; intro w X) | (refine ZyA ?_; clear X; intro g w X))
      go_meet
      exact ⟨_, _, _, _, _, _, _, _, _, rfl, rfl, X⟩
    ·have c0 : (c == 0) = false := beq_eq_false_iff_ne.2 hc
     obtain rfl : E = c := by rw [eE]; simp [hc]
     clear eE hc hblk
     replace hAl := hid hAl
     go_wp2_with (first
      | (refine ZyL ?_) | (refine ZyS ?_; clear X; intro w X) | (refine ZyA ?_; clear X; intro g w X))
     have X9 := X.perm ((List.perm_append_comm (l₁ := [_]) (l₂ := [_, _])).append_right _)
     simp only [List.cons_append, List.nil_append] at X9
     clear X
     have X := X9
     clear X9
     (refine q_startS 2 [] [8, 12] [3, 5, 7] [0, 1, 2, 3, 4, 5, 6, 7, 8, 9, 10, 11, 12, 13] X ?_; clear X; intro hQ X hL; simp only [zF, zG] at hL; simp only [zF, zG])
     refine Zm ?_
     refine Zn ?_
     refine Zf ?_
     refine Zl ?_
     refine Zf ?_
     refine Zl ?_
     refine Zf ?_
     refine Zl ?_
     (refine q_callS 64 Tryz.func64 (hAl.out _ (X.jNow hsz.out (fun r hr => List.mem_append_left _ hr))) ?_; rintro e w1 ⟨vm', vd', vr', rfl, hN, hb1⟩; replace X := X.addT hb1 hN Zfl Zfl Zfl; clear hb1 hN; obtain ⟨am, cm, rfl, _⟩ := X.r0.form; obtain ⟨ad, cd, rfl, _⟩ := X.r1.form; obtain ⟨ar, cr, rfl, _⟩ := X.r2.form; refine Zce ?_; clear hL; intro hL)
     refine Zm ?_
     refine Zx ?_
     refine Zx ?_
     (refine Zs ?_; clear hL X; intro w X hL)
     refine Za ?_
     refine q_nil ?_
     have X9 := X.perm ((List.perm_append_comm (l₁ := [_, _]) (l₂ := [_])).append_right _)
     simp only [List.cons_append, List.nil_append] at X9
     clear X
     have X := X9
     clear X9
     go_wp2_with (first
      | (refine ZyL ?_) | (refine ZyS ?_; clear X; intro w X) | (refine ZyA ?_; clear X; intro g w X))
     go_meet
     exact ⟨_, _, _, _, _, _, _, _, _, rfl, rfl, X⟩
   ·have hSt := fun w h => K.stop j.now a.h (.slice v.nm.a j.now.mt.length v.nm.c) (.slice v.nd.a j.now.dt.length v.nd.c) (.slice v.nr.a j.now.rev.length v.nr.c) w h
    have eE : stopE j.now a.h = E := by rw [<- hE.out]; unfold altE; rw [if_neg (by omega), if_pos hk]
    have eT : stopT j.now a.h = T := by rw [<- hTT.out]; unfold altT; rw [if_neg (by omega), if_pos hk]
    have hT := stopT_eq' j.now a.h
    rw [eT] at hT
    rw [eE, eT] at hSt
    obtain rfl : TO = role := by rw [<- hTO.out, <- hrole.out]; unfold altTo; rw [if_neg (by omega), if_neg (by omega), if_neg (by omega)]
    simp only [txnV] at hSt
    replace hSt := hid hSt; replace hT := hid hT
    clear eE eT hE hTT hTO hrole
    have q1 : (a.kind == 1) = false := by rw [hk]; rfl
    have q5 : (a.kind == 5) = true := by rw [hk]; rfl
    clear hk
    go_wp2_with (first
     | (refine ZyL ?_) | (refine ZyS ?_; clear X; intro w X) | (refine ZyA ?_; clear X; intro g w X))
    have X9 := X.perm ((List.perm_append_comm (l₁ := [_]) (l₂ := [_, _])).append_right _)
    simp only [List.cons_append, List.nil_append] at X9
    clear X
    have X := X9
    clear X9
    (refine q_startS 2 [] [6, 10] [3, 5] [0, 1, 2, 3, 4, 5, 6, 7, 8, 9, 10, 11] X ?_; clear X; intro hQ X hL; simp only [zF, zG] at hL; simp only [zF, zG])
    refine Zm ?_
    refine Zn ?_
    refine Zf ?_
    refine Zl ?_
    refine Zf ?_
    refine Zl ?_
    (refine q_callS 61 Tryz.func61 (hSt.out _ (X.jNow hsz.out (fun r hr => List.mem_append_left _ hr))) ?_; rintro e w1 ⟨rfl, hb1⟩; replace X := X.call hb1; clear hb1; refine Zce ?_; clear hL; intro hL)
    refine Zm ?_
    refine Zx ?_
    refine Zx ?_
    (refine Zs ?_; clear hL X; intro w X hL)
    refine Za ?_
    refine q_nil ?_
    replace hT := hT.out
    have X9 := X.perm ((List.perm_append_comm (l₁ := [_, _]) (l₂ := [_])).append_right _)
    simp only [List.cons_append, List.nil_append] at X9
    clear X
    have X := X9
    clear X9
    go_wp2
    go_meet
    exact ⟨_, _, _, _, _, _, _, _, _, rfl, rfl, (X.rds (fun r hr => (List.mem_cons.1 hr).elim (fun h => by rw [h, hT.1]; exact Zfl) (fun hr => (List.mem_cons.1 hr).elim (fun h => by rw [h, hT.2.1]; exact Zfl) (fun hr => (List.mem_cons.1 hr).elim (fun h => by rw [h, hT.2.2]; exact Zfl) (fun hr => hr)))))⟩
  clear X
  obtain ⟨am, ad, ar, nm, nd, nr, cm, cd, cr, rfl, rfl, X⟩ := hcut
  obtain rfl : nm = T.mt.length := by obtain ⟨_, _, h1, _⟩ := (X.rd _ (.head _)).1; simp only [Rd.of, Value.slice.injEq] at h1; exact h1.2.1
  obtain rfl : nd = T.dt.length := by obtain ⟨_, _, h1, _⟩ := (X.rd _ (.tail _ (.head _))).1; simp only [Rd.of, Value.slice.injEq] at h1; exact h1.2.1
  obtain rfl : nr = T.rev.length := by obtain ⟨_, _, h1, _⟩ := (X.rd _ (.tail _ (.tail _ (.head _)))).1; simp only [Rd.of, Value.slice.injEq] at h1; exact h1.2.1
  clear hE hTT hTO hFit
  by_cases hE0 : E = 0
  ·have hE1 : altE j a = 0 := hE9.out.trans hE0
   by_cases hto : TO = role
   ·have hk4 : ¬ a.kind = 4 := fun hk => by
      have h1 := hE1
      have h2 := hTO9.out
      unfold altE at h1
      unfold altTo at h2
      rw [if_neg (by omega), if_neg (by omega), if_neg (by omega), if_neg (by omega), if_pos hk, hrole.out] at h1
      rw [if_neg (by omega), if_neg (by omega), if_pos hk] at h2
      have h3 : role = 0 := by omega
      unfold orE at h1
      split at h1
      · cases h1
      · rename_i h4; exact h4 ⟨h1, h3⟩
    have hJ : changeJ j a = ({ j with now := T }, 0) := by unfold changeJ; rw [if_pos hE1, hTT9.out, hTO9.out, hrole.out, if_neg (fun h => h.2 hto), if_neg hk4]
    have hI2 := hI.out
    rw [hJ] at hI2
    dsimp only at hI2
    replace hI := hid hI2
    have f1 : (TO != role) = false := by rw [hto]; simp
    have f4 : (a.kind == 4) = false := beq_eq_false_iff_ne.2 hk4
    replace hJ := hid hJ; clear hI2 hk4 hto hE1
    subst hE0
    unfold jCells at X
    go_wp2_with (first
     | (refine ZyL ?_) | (refine ZyS ?_; clear X; intro w X) | (refine ZyA ?_; clear X; intro g w X))
    go_ret
    rw [hJ.out]
    dsimp only
    first
     | exact JMk1 (v := { v with nm := ⟨am, cm⟩, nd := ⟨ad, cd⟩, nr := ⟨ar, cr⟩ }) [_, _] X ⟨hm.out.dn, hm.out.us, hm.out.dmap, hm.out.fmap, hm.out.dfit, hm.out.ffit, hI.out, hm.out.sz⟩ (jRds_sub Zfl Zfl Zfl Zfl Zfl Zfl Zfl Zfl Zfl Zfl (fun r hr => .tail _ (.tail _ (.tail _ (inF_in r hr)))) (fun r hr => .tail _ (.tail _ (.tail _ (inD_in r hr)))) (fun r hr => .tail _ (.tail _ (.tail _ (List.mem_append_right _ hr))))) rfl
     | exact JMk2 (v := { v with nm := ⟨am, cm⟩, nd := ⟨ad, cd⟩, nr := ⟨ar, cr⟩ }) [_, _] X ⟨hm.out.dn, hm.out.us, hm.out.dmap, hm.out.fmap, hm.out.dfit, hm.out.ffit, hI.out, hm.out.sz⟩ (jRds_sub Zfl Zfl Zfl Zfl Zfl Zfl Zfl Zfl Zfl Zfl (fun r hr => .tail _ (.tail _ (.tail _ (inF_in r hr)))) (fun r hr => .tail _ (.tail _ (.tail _ (inD_in r hr)))) (fun r hr => .tail _ (.tail _ (.tail _ (List.mem_append_right _ hr))))) rfl
   ·have f1 : (TO != role) = true := by simpa using hto
    by_cases hk4 : a.kind = 4
    ·have hJ : changeJ j a = ({ j with now := T, roles := setF j.roles n TO, freed := setF j.freed n T.seq }, 0) := by unfold changeJ; rw [if_pos hE1, hTT9.out, hTO9.out, hrole.out, if_pos ⟨show isBlk a.b = true from decide_eq_true (by omega), hto⟩, if_pos hk4, hn]
     have hI2 := hI.out
     rw [hJ] at hI2
     dsimp only at hI2
     replace hI := hid hI2
     have f4 : (a.kind == 4) = true := by rw [hk4]; rfl
     replace hJ := hid hJ; clear hI2 hk4 hto hE1
     subst hE0
     unfold jCells at X
     go_upto_region 34 with (first
      | (refine ZyL ?_) | (refine ZyS ?_; clear X; intro w X) | (refine ZyA ?_; clear X; intro g w X))
     (refine q_startS 2 [] [7] [2] [0, 1, 2, 3, 4, 5, 6, 7] X ?_; clear X; intro hQ X hL; simp only [zF, zG] at hL; simp only [zF, zG])
     refine Zm ?_
     refine Zf ?_
     refine Zl ?_
     refine Zm ?_
     refine Zn ?_
     refine Zf ?_
     refine Zg ?_
     ((refine d_put1 rfl rfl Zev Zev X rfl rfl rfl rfl hL Zpv Zsu ?_); intro w X2 hL2; replace X := X2; clear X2; replace hL := hL2; clear hL2; (simp only [Act.put, zA, zB, zC, zD, zE, zF, zG, Nat.reduceAdd]))
     refine q_nil ?_
     have hu := upd_roles { v with nm := ⟨am, cm⟩, nd := ⟨ad, cd⟩, nr := ⟨ar, cr⟩ } { j with now := T } hn12 TO
     unfold jCells at hu
     dsimp only at hu
     rw [hu] at X
     clear hu
     go_upto_region 36 with (first
      | (refine ZyL ?_) | (refine ZyS ?_; clear X; intro w X) | (refine ZyA ?_; clear X; intro g w X))
     (refine q_startS 2 [] [8] [2, 4] [0, 1, 2, 3, 4, 5, 6, 7, 8] X ?_; clear X; intro hQ X hL; simp only [zF, zG] at hL; simp only [zF, zG])
     refine Zm ?_
     refine Zf ?_
     refine Zl ?_
     refine Zf ?_
     refine Zl ?_
     refine Zn ?_
     refine Zf ?_
     refine Zg ?_
     ((refine d_put1 rfl rfl Zev Zev X rfl rfl rfl rfl hL Zpv Zsu ?_); intro w X2 hL2; replace X := X2; clear X2; replace hL := hL2; clear hL2; (simp only [Act.put, zA, zB, zC, zD, zE, zF, zG, Nat.reduceAdd]))
     refine q_nil ?_
     have hu := upd_freed { v with nm := ⟨am, cm⟩, nd := ⟨ad, cd⟩, nr := ⟨ar, cr⟩ } { j with now := T, roles := setF j.roles n TO } hn12 T.seq
     unfold jCells at hu
     dsimp only at hu
     rw [hu] at X
     clear hu
     go_wp2_with (first
      | (refine ZyL ?_) | (refine ZyS ?_; clear X; intro w X) | (refine ZyA ?_; clear X; intro g w X))
     go_ret
     rw [hJ.out]
     dsimp only
     first
      | exact JMk1 (v := { v with nm := ⟨am, cm⟩, nd := ⟨ad, cd⟩, nr := ⟨ar, cr⟩ }) [_, _] X ⟨hm.out.dn, hm.out.us, hm.out.dmap, hm.out.fmap, hm.out.dfit, hm.out.ffit, hI.out, hm.out.sz⟩ (jRds_sub Zfl Zfl Zfl Zfl Zfl Zfl Zfl Zfl Zfl Zfl (fun r hr => .tail _ (.tail _ (.tail _ (inF_in r hr)))) (fun r hr => .tail _ (.tail _ (.tail _ (inD_in r hr)))) (fun r hr => .tail _ (.tail _ (.tail _ (List.mem_append_right _ hr))))) rfl
      | exact JMk2 (v := { v with nm := ⟨am, cm⟩, nd := ⟨ad, cd⟩, nr := ⟨ar, cr⟩ }) [_, _] X ⟨hm.out.dn, hm.out.us, hm.out.dmap, hm.out.fmap, hm.out.dfit, hm.out.ffit, hI.out, hm.out.sz⟩ (jRds_sub Zfl Zfl Zfl Zfl Zfl Zfl Zfl Zfl Zfl Zfl (fun r hr => .tail _ (.tail _ (.tail _ (inF_in r hr)))) (fun r hr => .tail _ (.tail _ (.tail _ (inD_in r hr)))) (fun r hr => .tail _ (.tail _ (.tail _ (List.mem_append_right _ hr))))) rfl
    ·have hJ : changeJ j a = ({ j with now := T, roles := setF j.roles n TO }, 0) := by unfold changeJ; rw [if_pos hE1, hTT9.out, hTO9.out, hrole.out, if_pos ⟨show isBlk a.b = true from decide_eq_true (by omega), hto⟩, if_neg hk4, hn]
     have hI2 := hI.out
     rw [hJ] at hI2
     dsimp only at hI2
     replace hI := hid hI2
     have f4 : (a.kind == 4) = false := beq_eq_false_iff_ne.2 hk4
     replace hJ := hid hJ; clear hI2 hk4 hto hE1
     subst hE0
     unfold jCells at X
     go_upto_region 34 with (first
      | (refine ZyL ?_) | (refine ZyS ?_; clear X; intro w X) | (refine ZyA ?_; clear X; intro g w X))
     (refine q_startS 2 [] [7] [2] [0, 1, 2, 3, 4, 5, 6, 7] X ?_; clear X; intro hQ X hL; simp only [zF, zG] at hL; simp only [zF, zG])
     refine Zm ?_
     refine Zf ?_
     refine Zl ?_
     refine Zm ?_
     refine Zn ?_
     refine Zf ?_
     refine Zg ?_
     ((refine d_put1 rfl rfl Zev Zev X rfl rfl rfl rfl hL Zpv Zsu ?_); intro w X2 hL2; replace X := X2; clear X2; replace hL := hL2; clear hL2; (simp only [Act.put, zA, zB, zC, zD, zE, zF, zG, Nat.reduceAdd]))
     refine q_nil ?_
     have hu := upd_roles { v with nm := ⟨am, cm⟩, nd := ⟨ad, cd⟩, nr := ⟨ar, cr⟩ } { j with now := T } hn12 TO
     unfold jCells at hu
     dsimp only at hu
     rw [hu] at X
     clear hu
     go_wp2_with (first
      | (refine ZyL ?_) | (refine ZyS ?_; clear X; intro w X) | (refine ZyA ?_; clear X; intro g w X))
     go_ret
     rw [hJ.out]
     dsimp only
     first
      | exact JMk1 (v := { v with nm := ⟨am, cm⟩, nd := ⟨ad, cd⟩, nr := ⟨ar, cr⟩ }) [_, _] X ⟨hm.out.dn, hm.out.us, hm.out.dmap, hm.out.fmap, hm.out.dfit, hm.out.ffit, hI.out, hm.out.sz⟩ (jRds_sub Zfl Zfl Zfl Zfl Zfl Zfl Zfl Zfl Zfl Zfl (fun r hr => .tail _ (.tail _ (.tail _ (inF_in r hr)))) (fun r hr => .tail _ (.tail _ (.tail _ (inD_in r hr)))) (fun r hr => .tail _ (.tail _ (.tail _ (List.mem_append_right _ hr))))) rfl
      | exact JMk2 (v := { v with nm := ⟨am, cm⟩, nd := ⟨ad, cd⟩, nr := ⟨ar, cr⟩ }) [_, _] X ⟨hm.out.dn, hm.out.us, hm.out.dmap, hm.out.fmap, hm.out.dfit, hm.out.ffit, hI.out, hm.out.sz⟩ (jRds_sub Zfl Zfl Zfl Zfl Zfl Zfl Zfl Zfl Zfl Zfl (fun r hr => .tail _ (.tail _ (.tail _ (inF_in r hr)))) (fun r hr => .tail _ (.tail _ (.tail _ (inD_in r hr)))) (fun r hr => .tail _ (.tail _ (.tail _ (List.mem_append_right _ hr))))) rfl
  ·have hJ : changeJ j a = (j, E) := by unfold changeJ; rw [hE9.out, if_neg hE0]
   have f0 : (E != 0) = true := by simpa using hE0
   clear hE0
   replace hJ := hid hJ
   go_wp2_with (first
    | (refine ZyL ?_) | (refine ZyS ?_; clear X; intro w X) | (refine ZyA ?_; clear X; intro g w X))
   go_ret
   rw [hJ.out]
   dsimp only
   first
    | exact JMk1 (v := v) [_, _] X hm.out (fun r hr => .tail _ (.tail _ (.tail _ hr))) rfl
    | exact JMk2 (v := v) [_, _] X hm.out (fun r hr => .tail _ (.tail _ (.tail _ hr))) rfl
 ·obtain rfl : role = 0 := by rw [<- hrole.out]; unfold roleJ; rw [if_neg (show ¬ isBlk a.b = true from fun h => hb (of_decide_eq_true h))]
  by_cases hlt : a.b < 0
  ·go_enter Tryz.func31, Tryz.ntmps31
   go_upto_region 1 with (first
    | (refine Zbx ?_; clear X; intro g w X))
   go_upto_block 0 with (first
    | (refine ZyL ?_) | (refine ZyS ?_; clear X; intro w X) | (refine ZyA ?_; clear X; intro g w X)
    | (go_at_call 11; ((with_reducible refine (hFit.out _).mono ?_); rintro e w1 ⟨rfl, hb1⟩; replace X := X.call hb1; clear hb1)))
   obtain ⟨g5, g3, rfl, rfl⟩ := X.nm2
   go_cut [6, 9] (fun s6 s9 wx => ∃ (am ad ar : Option Addr) (nm nd nr cm cd cr : Nat), s6 = .int .i64 E /\ s9 = .int .i64 TO /\ St S w0 wx (⟨g5, [.int .i64 T.seq, .slice am nm cm, .slice ad nd cd, .slice ar nr cr, .bool T.h0.on, .int .i64 T.h0.left, .bool T.h1.on, .int .i64 T.h1.left, .bool T.h2.on, .int .i64 T.h2.left], 43⟩ :: ⟨g3, [.int .i64 a.kind, .int .i64 a.h, .int .i64 a.b, .int .i64 a.n, .string a.text], 29⟩ :: ⟨gj, jCells v j, 71⟩ :: (MD ++ (MU ++ L))) (Rd.of cpyC (.slice am nm cm) T.mt :: Rd.of cpyC (.slice ad nd cd) T.dt :: Rd.of intC (.slice ar nr cr) T.rev :: (jRds v j ds fs ++ R)))
   case first =>
    rcases hks with hk | hk | hk | hk | hk
    ·have hBg := fun w h => K.beg j.now a.h a.n (24 - j.ring.used) (.slice v.nm.a j.now.mt.length v.nm.c) (.slice v.nd.a j.now.dt.length v.nd.c) (.slice v.nr.a j.now.rev.length v.nr.c) w h
     have hFr := fun w => K.free j.ring w hgr.2.2.1 hgr.2.2.2
     unfold Ring.val at hFr
     have eE : begE j.now a.h a.n (24 - j.ring.used) = E := by rw [<- hE.out]; unfold altE; rw [if_pos hk]; rfl
     have eT : begT j.now a.h a.n (24 - j.ring.used) = T := by rw [<- hTT.out]; unfold altT; rw [if_pos hk]; rfl
     have hT := begT_eq' j.now a.h a.n (24 - j.ring.used)
     rw [eT] at hT
     rw [eE, eT] at hBg
     obtain rfl : TO = 0 := by rw [<- hTO.out, <- hrole.out]; unfold altTo; rw [if_neg (by omega), if_neg (by omega), if_neg (by omega)]
     simp only [txnV] at hBg
     replace hBg := hid hBg; replace hFr := hid hFr; replace hT := hid hT
     clear eE eT hE hTT hTO hrole
     have q1 : (a.kind == 1) = true := by rw [hk]; rfl
     clear hk
     go_wp2_with (first
      | (refine ZyL ?_) | (refine ZyS ?_; clear X; intro w X) | (refine ZyA ?_; clear X; intro g w X))
     have X9 := X.perm ((List.perm_append_comm (l₁ := [_]) (l₂ := [_, _])).append_right _)
     simp only [List.cons_append, List.nil_append] at X9
     clear X
     have X := X9
     clear X9
     (refine q_startS 2 [] [12, 13, 17] [3, 5, 7, 11] [0, 1, 2, 3, 4, 5, 6, 7, 8, 9, 10, 11, 12, 13, 14, 15, 16, 17, 18] X ?_; clear X; intro hQ X hL; simp only [zF, zG] at hL; simp only [zF, zG])
     refine Zm ?_
     refine Zn ?_
     refine Zf ?_
     refine Zl ?_
     refine Zf ?_
     refine Zl ?_
     refine Zf ?_
     refine Zl ?_
     refine Zm ?_
     refine Zn ?_
     refine Zf ?_
     refine Zl ?_
     (refine q_callS 60 Tryz.func60 (hFr.out _) ?_; rintro e w1 ⟨rfl, hb1⟩; replace X := X.call hb1; clear hb1; refine Zce ?_; clear hL; intro hL)
     (refine q_callS 59 Tryz.func59 (hBg.out _ (X.jNow hsz.out (fun r hr => List.mem_append_left _ hr))) ?_; rintro e w1 ⟨rfl, hb1⟩; replace X := X.call hb1; clear hb1; refine Zce ?_; clear hL; intro hL)
     refine Zm ?_
     refine Zx ?_
     refine Zx ?_
     (refine Zs ?_; clear hL X; intro w X hL)
     refine Za ?_
     refine q_nil ?_
     replace hT := hT.out
     have X9 := X.perm ((List.perm_append_comm (l₁ := [_, _]) (l₂ := [_])).append_right _)
     simp only [List.cons_append, List.nil_append] at X9
     clear X
     have X := X9
     clear X9
     go_wp2
     go_meet
     exact ⟨_, _, _, _, _, _, _, _, _, rfl, rfl, (X.rds (fun r hr => (List.mem_cons.1 hr).elim (fun h => by rw [h, hT.1]; exact Zfl) (fun hr => (List.mem_cons.1 hr).elim (fun h => by rw [h, hT.2.1]; exact Zfl) (fun hr => (List.mem_cons.1 hr).elim (fun h => by rw [h, hT.2.2]; exact Zfl) (fun hr => hr)))))⟩
    ·have hAl := fun w h => K.chg j.now a.h a.b ft (.slice v.nm.a j.now.mt.length v.nm.c) (.slice v.nd.a j.now.dt.length v.nd.c) (.slice v.nr.a j.now.rev.length v.nr.c) w h
     have eT : chgT j.now a.h a.b ft = T := by rw [<- hTT.out]; unfold altT; rw [if_neg (by omega), if_neg (by omega), if_pos hk, hft.out]
     have eE : E = orE (chgE j.now a.h a.b ft) ((0 : Int) = 2) 8 := by rw [<- hE.out]; unfold altE; rw [if_neg (by omega), if_neg (by omega), if_pos hk, hft.out, hrole.out]
     rw [eT] at hAl
     obtain rfl : TO = 1 := by rw [<- hTO.out]; unfold altTo; rw [if_pos hk]
     simp only [txnV] at hAl
     have hblk : chgE j.now a.h a.b ft = 0 -> 0 <= a.b /\ a.b < 12 := fun h => of_decide_eq_true (blk_of2 h)
     clear eT hE hTT hTO hrole
     have q1 : (a.kind == 1) = false := by rw [hk]; rfl
     have q5 : (a.kind == 5) = false := by rw [hk]; rfl
     have q2 : (a.kind == 2) = true := by rw [hk]; rfl
     clear hk
     unfold orE at eE
     generalize chgE j.now a.h a.b ft = c at *
     have hc : ¬ c = 0 := fun h => by have := hblk h; omega
     have c0 : (c == 0) = false := beq_eq_false_iff_ne.2 hc
     obtain rfl : E = c := by rw [eE]; simp [hc]
     clear eE hc hblk
     replace hAl := hid hAl
     go_wp2_with (first
      | (refine ZyL ?_) | (refine ZyS ?_; clear X; intro w X) | (refine ZyA ?_; clear X; intro g w X))
     have X9 := X.perm ((List.perm_append_comm (l₁ := [_]) (l₂ := [_, _])).append_right _)
     simp only [List.cons_append, List.nil_append] at X9
     clear X
     have X := X9
     clear X9
     (refine q_startS 2 [] [9, 13] [3, 5, 7] [0, 1, 2, 3, 4, 5, 6, 7, 8, 9, 10, 11, 12, 13, 14] X ?_; clear X; intro hQ X hL; simp only [zF, zG] at hL; simp only [zF, zG])
     refine Zm ?_
     refine Zn ?_
     refine Zf ?_
     refine Zl ?_
     refine Zf ?_
     refine Zl ?_
     refine Zf ?_
     refine Zl ?_
     refine Zm ?_
     (refine q_callS 62 Tryz.func62 (hAl.out _ (X.jNow hsz.out (fun r hr => List.mem_append_left _ hr))) ?_; rintro e w1 ⟨vm', vd', vr', rfl, hN, hb1⟩; replace X := X.addT hb1 hN Zfl Zfl Zfl; clear hb1 hN; obtain ⟨am, cm, rfl, _⟩ := X.r0.form; obtain ⟨ad, cd, rfl, _⟩ := X.r1.form; obtain ⟨ar, cr, rfl, _⟩ := X.r2.form; refine Zce ?_; clear hL; intro hL)
     refine Zm ?_
     refine Zx ?_
     refine Zx ?_
     (refine Zs ?_; clear hL X; intro w X hL)
     refine Za ?_
     refine q_nil ?_
     have X9 := X.perm ((List.perm_append_comm (l₁ := [_, _]) (l₂ := [_])).append_right _)
     simp only [List.cons_append, List.nil_append] at X9
     clear X
     have X := X9
     clear X9
     go_wp2_with (first
      | (refine ZyL ?_) | (refine ZyS ?_; clear X; intro w X) | (refine ZyA ?_; clear X; intro g w X))
     go_meet
     exact ⟨_, _, _, _, _, _, _, _, _, rfl, rfl, X⟩
    ·have hAl := fun w h => K.fil j.now a.h a.b ft (.slice v.nm.a j.now.mt.length v.nm.c) (.slice v.nd.a j.now.dt.length v.nd.c) (.slice v.nr.a j.now.rev.length v.nr.c) w h
     have eT : filT j.now a.h a.b ft = T := by rw [<- hTT.out]; unfold altT; rw [if_neg (by omega), if_neg (by omega), if_neg (by omega), if_pos hk, hft.out]
     have eE : E = orE (orE (filE j.now a.h a.b ft) ((0 : Int) = 1) 8) (j.last < j.freed a.b) 9 := by rw [<- hE.out]; unfold altE; rw [if_neg (by omega), if_neg (by omega), if_neg (by omega), if_pos hk, hft.out, hrole.out]
     rw [eT] at hAl
     obtain rfl : TO = 2 := by rw [<- hTO.out]; unfold altTo; rw [if_neg (by omega), if_pos hk]
     simp only [txnV] at hAl
     have hblk : filE j.now a.h a.b ft = 0 -> 0 <= a.b /\ a.b < 12 := fun h => of_decide_eq_true (blk_of3 h)
     clear eT hE hTT hTO hrole
     have q1 : (a.kind == 1) = false := by rw [hk]; rfl
     have q5 : (a.kind == 5) = false := by rw [hk]; rfl
     have q2 : (a.kind == 2) = false := by rw [hk]; rfl
     have q3 : (a.kind == 3) = true := by rw [hk]; rfl
     clear hk
     unfold orE at eE
     generalize filE j.now a.h a.b ft = c at *
     have hc : ¬ c = 0 := fun h => by have := hblk h; omega
     have c0 : (c == 0) = false := beq_eq_false_iff_ne.2 hc
     obtain rfl : E = c := by rw [eE]; simp [hc]
     clear eE hc hblk
     replace hAl := hid hAl
     go_wp2_with (first
      | (refine ZyL ?_) | (refine ZyS ?_; clear X; intro w X) | (refine ZyA ?_; clear X; intro g w X))
     have X9 := X.perm ((List.perm_append_comm (l₁ := [_]) (l₂ := [_, _])).append_right _)
     simp only [List.cons_append, List.nil_append] at X9
     clear X
     have X := X9
     clear X9
     (refine q_startS 2 [] [9, 13] [3, 5, 7] [0, 1, 2, 3, 4, 5, 6, 7, 8, 9, 10, 11, 12, 13, 14] X ?_; clear X; intro hQ X hL; simp only [zF, zG] at hL; simp only [zF, zG])
     refine Zm ?_
     refine Zn ?_
     refine Zf ?_
     refine Zl ?_
     refine Zf ?_
     refine Zl ?_
     refine Zf ?_
     refine Zl ?_
     refine Zm ?_
     (refine q_callS 63 Tryz.func63 (hAl.out _ (X.jNow hsz.out (fun r hr => List.mem_append_left _ hr))) ?_; rintro e w1 ⟨vm', vd', vr', rfl, hN, hb1⟩; replace X := X.addT hb1 hN Zfl Zfl Zfl; clear hb1 hN; obtain ⟨am, cm, rfl, _⟩ := X.r0.form; obtain ⟨ad, cd, rfl, _⟩ := X.r1.form; obtain ⟨ar, cr, rfl, _⟩ := X.r2.form; refine Zce ?_; clear hL; intro hL)
     refine Zm ?_
     refine Zx ?_
     refine Zx ?_
     (refine Zs ?_; clear hL X; intro w X hL)
     refine Za ?_
     refine q_nil ?_
     have X9 := X.perm ((List.perm_append_comm (l₁ := [_, _]) (l₂ := [_])).append_right _)
     simp only [List.cons_append, List.nil_append] at X9
     clear X
     have X := X9
     clear X9
     go_wp2_with (first
      | (refine ZyL ?_) | (refine ZyS ?_; clear X; intro w X) | (refine ZyA ?_; clear X; intro g w X))
     (refine q_startS 3 [] [] [5, 9, 13] [0, 1, 2, 3, 4, 5, 6, 7, 8, 9, 10, 11, 12, 13, 14, 15] X ?_; clear X; intro hQ X hL; simp only [zF, zG] at hL; simp only [zF, zG])
     refine Zm ?_
     refine Zg ?_
     refine Zm ?_
     refine Zk ?_
     refine Zk ?_
     refine Zk ?_
     refine Zk ?_
     refine Zk ?_
     refine Zk ?_
     refine Zk ?_
     refine Zk ?_
     refine Zk ?_
     refine Zk ?_
     refine Zk ?_
     refine Zk ?_
     refine Zg ?_
     refine q_nil ?_
     go_wp2_with (first
      | (refine ZyL ?_) | (refine ZyS ?_; clear X; intro w X) | (refine ZyA ?_; clear X; intro g w X))
     go_meet
     exact ⟨_, _, _, _, _, _, _, _, _, rfl, rfl, X⟩
    ·have hAl := fun w h => K.rvk j.now a.h a.b (.slice v.nm.a j.now.mt.length v.nm.c) (.slice v.nd.a j.now.dt.length v.nd.c) (.slice v.nr.a j.now.rev.length v.nr.c) w h
     have eT : rvkT j.now a.h a.b = T := by rw [<- hTT.out]; unfold altT; rw [if_neg (by omega), if_neg (by omega), if_neg (by omega), if_neg (by omega)]
     have eE : E = orE (rvkE j.now a.h a.b) ((0 : Int) = 0) 8 := by rw [<- hE.out]; unfold altE; rw [if_neg (by omega), if_neg (by omega), if_neg (by omega), if_neg (by omega), if_pos hk, hrole.out]
     rw [eT] at hAl
     obtain rfl : TO = 0 := by rw [<- hTO.out]; unfold altTo; rw [if_neg (by omega), if_neg (by omega), if_pos hk]
     simp only [txnV] at hAl
     have hblk : rvkE j.now a.h a.b = 0 -> 0 <= a.b /\ a.b < 12 := fun h => of_decide_eq_true (blk_of4 h)
     clear eT hE hTT hTO hrole
     have q1 : (a.kind == 1) = false := by rw [hk]; rfl
     have q5 : (a.kind == 5) = false := by rw [hk]; rfl
     have q2 : (a.kind == 2) = false := by rw [hk]; rfl
     have q3 : (a.kind == 3) = false := by rw [hk]; rfl
     have q4 : (a.kind == 4) = true := by rw [hk]; rfl
     clear hk
     unfold orE at eE
     generalize rvkE j.now a.h a.b = c at *
     have hc : ¬ c = 0 := fun h => by have := hblk h; omega
     have c0 : (c == 0) = false := beq_eq_false_iff_ne.2 hc
     obtain rfl : E = c := by rw [eE]; simp [hc]
     clear eE hc hblk
     replace hAl := hid hAl
     go_wp2_with (first
      | (refine ZyL ?_) | (refine ZyS ?_; clear X; intro w X) | (refine ZyA ?_; clear X; intro g w X))
     have X9 := X.perm ((List.perm_append_comm (l₁ := [_]) (l₂ := [_, _])).append_right _)
     simp only [List.cons_append, List.nil_append] at X9
     clear X
     have X := X9
     clear X9
     (refine q_startS 2 [] [8, 12] [3, 5, 7] [0, 1, 2, 3, 4, 5, 6, 7, 8, 9, 10, 11, 12, 13] X ?_; clear X; intro hQ X hL; simp only [zF, zG] at hL; simp only [zF, zG])
     refine Zm ?_
     refine Zn ?_
     refine Zf ?_
     refine Zl ?_
     refine Zf ?_
     refine Zl ?_
     refine Zf ?_
     refine Zl ?_
     (refine q_callS 64 Tryz.func64 (hAl.out _ (X.jNow hsz.out (fun r hr => List.mem_append_left _ hr))) ?_; rintro e w1 ⟨vm', vd', vr', rfl, hN, hb1⟩; replace X := X.addT hb1 hN Zfl Zfl Zfl; clear hb1 hN; obtain ⟨am, cm, rfl, _⟩ := X.r0.form; obtain ⟨ad, cd, rfl, _⟩ := X.r1.form; obtain ⟨ar, cr, rfl, _⟩ := X.r2.form; refine Zce ?_; clear hL; intro hL)
     refine Zm ?_
     refine Zx ?_
     refine Zx ?_
     (refine Zs ?_; clear hL X; intro w X hL)
     refine Za ?_
     refine q_nil ?_
     have X9 := X.perm ((List.perm_append_comm (l₁ := [_, _]) (l₂ := [_])).append_right _)
     simp only [List.cons_append, List.nil_append] at X9
     clear X
     have X := X9
     clear X9
     go_wp2_with (first
      | (refine ZyL ?_) | (refine ZyS ?_; clear X; intro w X) | (refine ZyA ?_; clear X; intro g w X))
     go_meet
     exact ⟨_, _, _, _, _, _, _, _, _, rfl, rfl, X⟩
    ·have hSt := fun w h => K.stop j.now a.h (.slice v.nm.a j.now.mt.length v.nm.c) (.slice v.nd.a j.now.dt.length v.nd.c) (.slice v.nr.a j.now.rev.length v.nr.c) w h
     have eE : stopE j.now a.h = E := by rw [<- hE.out]; unfold altE; rw [if_neg (by omega), if_pos hk]
     have eT : stopT j.now a.h = T := by rw [<- hTT.out]; unfold altT; rw [if_neg (by omega), if_pos hk]
     have hT := stopT_eq' j.now a.h
     rw [eT] at hT
     rw [eE, eT] at hSt
     obtain rfl : TO = 0 := by rw [<- hTO.out, <- hrole.out]; unfold altTo; rw [if_neg (by omega), if_neg (by omega), if_neg (by omega)]
     simp only [txnV] at hSt
     replace hSt := hid hSt; replace hT := hid hT
     clear eE eT hE hTT hTO hrole
     have q1 : (a.kind == 1) = false := by rw [hk]; rfl
     have q5 : (a.kind == 5) = true := by rw [hk]; rfl
     clear hk
     go_wp2_with (first
      | (refine ZyL ?_) | (refine ZyS ?_; clear X; intro w X) | (refine ZyA ?_; clear X; intro g w X))
     have X9 := X.perm ((List.perm_append_comm (l₁ := [_]) (l₂ := [_, _])).append_right _)
     simp only [List.cons_append, List.nil_append] at X9
     clear X
     have X := X9
     clear X9
     (refine q_startS 2 [] [6, 10] [3, 5] [0, 1, 2, 3, 4, 5, 6, 7, 8, 9, 10, 11] X ?_; clear X; intro hQ X hL; simp only [zF, zG] at hL; simp only [zF, zG])
     refine Zm ?_
     refine Zn ?_
     refine Zf ?_
     refine Zl ?_
     refine Zf ?_
     refine Zl ?_
     (refine q_callS 61 Tryz.func61 (hSt.out _ (X.jNow hsz.out (fun r hr => List.mem_append_left _ hr))) ?_; rintro e w1 ⟨rfl, hb1⟩; replace X := X.call hb1; clear hb1; refine Zce ?_; clear hL; intro hL)
     refine Zm ?_
     refine Zx ?_
     refine Zx ?_
     (refine Zs ?_; clear hL X; intro w X hL)
     refine Za ?_
     refine q_nil ?_
     replace hT := hT.out
     have X9 := X.perm ((List.perm_append_comm (l₁ := [_, _]) (l₂ := [_])).append_right _)
     simp only [List.cons_append, List.nil_append] at X9
     clear X
     have X := X9
     clear X9
     go_wp2
     go_meet
     exact ⟨_, _, _, _, _, _, _, _, _, rfl, rfl, (X.rds (fun r hr => (List.mem_cons.1 hr).elim (fun h => by rw [h, hT.1]; exact Zfl) (fun hr => (List.mem_cons.1 hr).elim (fun h => by rw [h, hT.2.1]; exact Zfl) (fun hr => (List.mem_cons.1 hr).elim (fun h => by rw [h, hT.2.2]; exact Zfl) (fun hr => hr)))))⟩
   clear X
   obtain ⟨am, ad, ar, nm, nd, nr, cm, cd, cr, rfl, rfl, X⟩ := hcut
   obtain rfl : nm = T.mt.length := by obtain ⟨_, _, h1, _⟩ := (X.rd _ (.head _)).1; simp only [Rd.of, Value.slice.injEq] at h1; exact h1.2.1
   obtain rfl : nd = T.dt.length := by obtain ⟨_, _, h1, _⟩ := (X.rd _ (.tail _ (.head _))).1; simp only [Rd.of, Value.slice.injEq] at h1; exact h1.2.1
   obtain rfl : nr = T.rev.length := by obtain ⟨_, _, h1, _⟩ := (X.rd _ (.tail _ (.tail _ (.head _)))).1; simp only [Rd.of, Value.slice.injEq] at h1; exact h1.2.1
   clear hE hTT hTO hFit
   by_cases hE0 : E = 0
   ·have hE1 : altE j a = 0 := hE9.out.trans hE0
    have hnb : ¬ isBlk a.b = true := fun h => hb (of_decide_eq_true h)
    have hk4 : ¬ a.kind = 4 := fun hk => hnb (alt_blk (.inr (.inr hk)) hE1)
    have hJ : changeJ j a = ({ j with now := T }, 0) := by unfold changeJ; rw [if_pos hE1, hTT9.out, if_neg (fun h => hnb h.1), if_neg hk4]
    have hI2 := hI.out
    rw [hJ] at hI2
    dsimp only at hI2
    replace hI := hid hI2
    have f4 : (a.kind == 4) = false := beq_eq_false_iff_ne.2 hk4
    replace hJ := hid hJ; clear hI2 hk4 hnb hE1 hb
    subst hE0
    unfold jCells at X
    go_wp2_with (first
     | (refine ZyL ?_) | (refine ZyS ?_; clear X; intro w X) | (refine ZyA ?_; clear X; intro g w X))
    go_ret
    rw [hJ.out]
    dsimp only
    first
     | exact JMk1 (v := { v with nm := ⟨am, cm⟩, nd := ⟨ad, cd⟩, nr := ⟨ar, cr⟩ }) [_, _] X ⟨hm.out.dn, hm.out.us, hm.out.dmap, hm.out.fmap, hm.out.dfit, hm.out.ffit, hI.out, hm.out.sz⟩ (jRds_sub Zfl Zfl Zfl Zfl Zfl Zfl Zfl Zfl Zfl Zfl (fun r hr => .tail _ (.tail _ (.tail _ (inF_in r hr)))) (fun r hr => .tail _ (.tail _ (.tail _ (inD_in r hr)))) (fun r hr => .tail _ (.tail _ (.tail _ (List.mem_append_right _ hr))))) rfl
     | exact JMk2 (v := { v with nm := ⟨am, cm⟩, nd := ⟨ad, cd⟩, nr := ⟨ar, cr⟩ }) [_, _] X ⟨hm.out.dn, hm.out.us, hm.out.dmap, hm.out.fmap, hm.out.dfit, hm.out.ffit, hI.out, hm.out.sz⟩ (jRds_sub Zfl Zfl Zfl Zfl Zfl Zfl Zfl Zfl Zfl Zfl (fun r hr => .tail _ (.tail _ (.tail _ (inF_in r hr)))) (fun r hr => .tail _ (.tail _ (.tail _ (inD_in r hr)))) (fun r hr => .tail _ (.tail _ (.tail _ (List.mem_append_right _ hr))))) rfl
   ·have hJ : changeJ j a = (j, E) := by unfold changeJ; rw [hE9.out, if_neg hE0]
    have f0 : (E != 0) = true := by simpa using hE0
    clear hE0
    replace hJ := hid hJ
    go_wp2_with (first
     | (refine ZyL ?_) | (refine ZyS ?_; clear X; intro w X) | (refine ZyA ?_; clear X; intro g w X))
    go_ret
    rw [hJ.out]
    dsimp only
    first
     | exact JMk1 (v := v) [_, _] X hm.out (fun r hr => .tail _ (.tail _ (.tail _ hr))) rfl
     | exact JMk2 (v := v) [_, _] X hm.out (fun r hr => .tail _ (.tail _ (.tail _ hr))) rfl
  ·have hge : (12 : Int) <= a.b := by omega
   go_enter Tryz.func31, Tryz.ntmps31
   go_upto_region 1 with (first
    | (refine Zbx ?_; clear X; intro g w X))
   go_upto_block 0 with (first
    | (refine ZyL ?_) | (refine ZyS ?_; clear X; intro w X) | (refine ZyA ?_; clear X; intro g w X)
    | (go_at_call 11; ((with_reducible refine (hFit.out _).mono ?_); rintro e w1 ⟨rfl, hb1⟩; replace X := X.call hb1; clear hb1)))
   obtain ⟨g5, g3, rfl, rfl⟩ := X.nm2
   go_cut [6, 9] (fun s6 s9 wx => ∃ (am ad ar : Option Addr) (nm nd nr cm cd cr : Nat), s6 = .int .i64 E /\ s9 = .int .i64 TO /\ St S w0 wx (⟨g5, [.int .i64 T.seq, .slice am nm cm, .slice ad nd cd, .slice ar nr cr, .bool T.h0.on, .int .i64 T.h0.left, .bool T.h1.on, .int .i64 T.h1.left, .bool T.h2.on, .int .i64 T.h2.left], 43⟩ :: ⟨g3, [.int .i64 a.kind, .int .i64 a.h, .int .i64 a.b, .int .i64 a.n, .string a.text], 29⟩ :: ⟨gj, jCells v j, 71⟩ :: (MD ++ (MU ++ L))) (Rd.of cpyC (.slice am nm cm) T.mt :: Rd.of cpyC (.slice ad nd cd) T.dt :: Rd.of intC (.slice ar nr cr) T.rev :: (jRds v j ds fs ++ R)))
   case first =>
    rcases hks with hk | hk | hk | hk | hk
    ·have hBg := fun w h => K.beg j.now a.h a.n (24 - j.ring.used) (.slice v.nm.a j.now.mt.length v.nm.c) (.slice v.nd.a j.now.dt.length v.nd.c) (.slice v.nr.a j.now.rev.length v.nr.c) w h
     have hFr := fun w => K.free j.ring w hgr.2.2.1 hgr.2.2.2
     unfold Ring.val at hFr
     have eE : begE j.now a.h a.n (24 - j.ring.used) = E := by rw [<- hE.out]; unfold altE; rw [if_pos hk]; rfl
     have eT : begT j.now a.h a.n (24 - j.ring.used) = T := by rw [<- hTT.out]; unfold altT; rw [if_pos hk]; rfl
     have hT := begT_eq' j.now a.h a.n (24 - j.ring.used)
     rw [eT] at hT
     rw [eE, eT] at hBg
     obtain rfl : TO = 0 := by rw [<- hTO.out, <- hrole.out]; unfold altTo; rw [if_neg (by omega), if_neg (by omega), if_neg (by omega)]
     simp only [txnV] at hBg
     replace hBg := hid hBg; replace hFr := hid hFr; replace hT := hid hT
     clear eE eT hE hTT hTO hrole
     have q1 : (a.kind == 1) = true := by rw [hk]; rfl
     clear hk
     go_wp2_with (first
      | (refine ZyL ?_) | (refine ZyS ?_; clear X; intro w X) | (refine ZyA ?_; clear X; intro g w X))
     have X9 := X.perm ((List.perm_append_comm (l₁ := [_]) (l₂ := [_, _])).append_right _)
     simp only [List.cons_append, List.nil_append] at X9
     clear X
     have X := X9
     clear X9
     (refine q_startS 2 [] [12, 13, 17] [3, 5, 7, 11] [0, 1, 2, 3, 4, 5, 6, 7, 8, 9, 10, 11, 12, 13, 14, 15, 16, 17, 18] X ?_; clear X; intro hQ X hL; simp only [zF, zG] at hL; simp only [zF, zG])
     refine Zm ?_
     refine Zn ?_
     refine Zf ?_
     refine Zl ?_
     refine Zf ?_
     refine Zl ?_
     refine Zf ?_
     refine Zl ?_
     refine Zm ?_
     refine Zn ?_
     refine Zf ?_
     refine Zl ?_
     (refine q_callS 60 Tryz.func60 (hFr.out _) ?_; rintro e w1 ⟨rfl, hb1⟩; replace X := X.call hb1; clear hb1; refine Zce ?_; clear hL; intro hL)
     (refine q_callS 59 Tryz.func59 (hBg.out _ (X.jNow hsz.out (fun r hr => List.mem_append_left _ hr))) ?_; rintro e w1 ⟨rfl, hb1⟩; replace X := X.call hb1; clear hb1; refine Zce ?_; clear hL; intro hL)
     refine Zm ?_
     refine Zx ?_
     refine Zx ?_
     (refine Zs ?_; clear hL X; intro w X hL)
     refine Za ?_
     refine q_nil ?_
     replace hT := hT.out
     have X9 := X.perm ((List.perm_append_comm (l₁ := [_, _]) (l₂ := [_])).append_right _)
     simp only [List.cons_append, List.nil_append] at X9
     clear X
     have X := X9
     clear X9
     go_wp2
     go_meet
     exact ⟨_, _, _, _, _, _, _, _, _, rfl, rfl, (X.rds (fun r hr => (List.mem_cons.1 hr).elim (fun h => by rw [h, hT.1]; exact Zfl) (fun hr => (List.mem_cons.1 hr).elim (fun h => by rw [h, hT.2.1]; exact Zfl) (fun hr => (List.mem_cons.1 hr).elim (fun h => by rw [h, hT.2.2]; exact Zfl) (fun hr => hr)))))⟩
    ·have hAl := fun w h => K.chg j.now a.h a.b ft (.slice v.nm.a j.now.mt.length v.nm.c) (.slice v.nd.a j.now.dt.length v.nd.c) (.slice v.nr.a j.now.rev.length v.nr.c) w h
     have eT : chgT j.now a.h a.b ft = T := by rw [<- hTT.out]; unfold altT; rw [if_neg (by omega), if_neg (by omega), if_pos hk, hft.out]
     have eE : E = orE (chgE j.now a.h a.b ft) ((0 : Int) = 2) 8 := by rw [<- hE.out]; unfold altE; rw [if_neg (by omega), if_neg (by omega), if_pos hk, hft.out, hrole.out]
     rw [eT] at hAl
     obtain rfl : TO = 1 := by rw [<- hTO.out]; unfold altTo; rw [if_pos hk]
     simp only [txnV] at hAl
     have hblk : chgE j.now a.h a.b ft = 0 -> 0 <= a.b /\ a.b < 12 := fun h => of_decide_eq_true (blk_of2 h)
     clear eT hE hTT hTO hrole
     have q1 : (a.kind == 1) = false := by rw [hk]; rfl
     have q5 : (a.kind == 5) = false := by rw [hk]; rfl
     have q2 : (a.kind == 2) = true := by rw [hk]; rfl
     clear hk
     unfold orE at eE
     generalize chgE j.now a.h a.b ft = c at *
     have hc : ¬ c = 0 := fun h => by have := hblk h; omega
     have c0 : (c == 0) = false := beq_eq_false_iff_ne.2 hc
     obtain rfl : E = c := by rw [eE]; simp [hc]
     clear eE hc hblk
     replace hAl := hid hAl
     go_wp2_with (first
      | (refine ZyL ?_) | (refine ZyS ?_; clear X; intro w X) | (refine ZyA ?_; clear X; intro g w X))
     have X9 := X.perm ((List.perm_append_comm (l₁ := [_]) (l₂ := [_, _])).append_right _)
     simp only [List.cons_append, List.nil_append] at X9
     clear X
     have X := X9
     clear X9
     (refine q_startS 2 [] [9, 13] [3, 5, 7] [0, 1, 2, 3, 4, 5, 6, 7, 8, 9, 10, 11, 12, 13, 14] X ?_; clear X; intro hQ X hL; simp only [zF, zG] at hL; simp only [zF, zG])
     refine Zm ?_
     refine Zn ?_
     refine Zf ?_
     refine Zl ?_
     refine Zf ?_
     refine Zl ?_
     refine Zf ?_
     refine Zl ?_
     refine Zm ?_
     (refine q_callS 62 Tryz.func62 (hAl.out _ (X.jNow hsz.out (fun r hr => List.mem_append_left _ hr))) ?_; rintro e w1 ⟨vm', vd', vr', rfl, hN, hb1⟩; replace X := X.addT hb1 hN Zfl Zfl Zfl; clear hb1 hN; obtain ⟨am, cm, rfl, _⟩ := X.r0.form; obtain ⟨ad, cd, rfl, _⟩ := X.r1.form; obtain ⟨ar, cr, rfl, _⟩ := X.r2.form; refine Zce ?_; clear hL; intro hL)
     refine Zm ?_
     refine Zx ?_
     refine Zx ?_
     (refine Zs ?_; clear hL X; intro w X hL)
     refine Za ?_
     refine q_nil ?_
     have X9 := X.perm ((List.perm_append_comm (l₁ := [_, _]) (l₂ := [_])).append_right _)
     simp only [List.cons_append, List.nil_append] at X9
     clear X
     have X := X9
     clear X9
     go_wp2_with (first
      | (refine ZyL ?_) | (refine ZyS ?_; clear X; intro w X) | (refine ZyA ?_; clear X; intro g w X))
     go_meet
     exact ⟨_, _, _, _, _, _, _, _, _, rfl, rfl, X⟩
    ·have hAl := fun w h => K.fil j.now a.h a.b ft (.slice v.nm.a j.now.mt.length v.nm.c) (.slice v.nd.a j.now.dt.length v.nd.c) (.slice v.nr.a j.now.rev.length v.nr.c) w h
     have eT : filT j.now a.h a.b ft = T := by rw [<- hTT.out]; unfold altT; rw [if_neg (by omega), if_neg (by omega), if_neg (by omega), if_pos hk, hft.out]
     have eE : E = orE (orE (filE j.now a.h a.b ft) ((0 : Int) = 1) 8) (j.last < j.freed a.b) 9 := by rw [<- hE.out]; unfold altE; rw [if_neg (by omega), if_neg (by omega), if_neg (by omega), if_pos hk, hft.out, hrole.out]
     rw [eT] at hAl
     obtain rfl : TO = 2 := by rw [<- hTO.out]; unfold altTo; rw [if_neg (by omega), if_pos hk]
     simp only [txnV] at hAl
     have hblk : filE j.now a.h a.b ft = 0 -> 0 <= a.b /\ a.b < 12 := fun h => of_decide_eq_true (blk_of3 h)
     clear eT hE hTT hTO hrole
     have q1 : (a.kind == 1) = false := by rw [hk]; rfl
     have q5 : (a.kind == 5) = false := by rw [hk]; rfl
     have q2 : (a.kind == 2) = false := by rw [hk]; rfl
     have q3 : (a.kind == 3) = true := by rw [hk]; rfl
     clear hk
     unfold orE at eE
     generalize filE j.now a.h a.b ft = c at *
     have hc : ¬ c = 0 := fun h => by have := hblk h; omega
     have c0 : (c == 0) = false := beq_eq_false_iff_ne.2 hc
     obtain rfl : E = c := by rw [eE]; simp [hc]
     clear eE hc hblk
     replace hAl := hid hAl
     go_wp2_with (first
      | (refine ZyL ?_) | (refine ZyS ?_; clear X; intro w X) | (refine ZyA ?_; clear X; intro g w X))
     have X9 := X.perm ((List.perm_append_comm (l₁ := [_]) (l₂ := [_, _])).append_right _)
     simp only [List.cons_append, List.nil_append] at X9
     clear X
     have X := X9
     clear X9
     (refine q_startS 2 [] [9, 13] [3, 5, 7] [0, 1, 2, 3, 4, 5, 6, 7, 8, 9, 10, 11, 12, 13, 14] X ?_; clear X; intro hQ X hL; simp only [zF, zG] at hL; simp only [zF, zG])
     refine Zm ?_
     refine Zn ?_
     refine Zf ?_
     refine Zl ?_
     refine Zf ?_
     refine Zl ?_
     refine Zf ?_
     refine Zl ?_
     refine Zm ?_
     (refine q_callS 63 Tryz.func63 (hAl.out _ (X.jNow hsz.out (fun r hr => List.mem_append_left _ hr))) ?_; rintro e w1 ⟨vm', vd', vr', rfl, hN, hb1⟩; replace X := X.addT hb1 hN Zfl Zfl Zfl; clear hb1 hN; obtain ⟨am, cm, rfl, _⟩ := X.r0.form; obtain ⟨ad, cd, rfl, _⟩ := X.r1.form; obtain ⟨ar, cr, rfl, _⟩ := X.r2.form; refine Zce ?_; clear hL; intro hL)
     refine Zm ?_
     refine Zx ?_
     refine Zx ?_
     (refine Zs ?_; clear hL X; intro w X hL)
     refine Za ?_
     refine q_nil ?_
     have X9 := X.perm ((List.perm_append_comm (l₁ := [_, _]) (l₂ := [_])).append_right _)
     simp only [List.cons_append, List.nil_append] at X9
     clear X
     have X := X9
     clear X9
     go_wp2_with (first
      | (refine ZyL ?_) | (refine ZyS ?_; clear X; intro w X) | (refine ZyA ?_; clear X; intro g w X))
     (refine q_startS 3 [] [] [5, 9, 13] [0, 1, 2, 3, 4, 5, 6, 7, 8, 9, 10, 11, 12, 13, 14, 15] X ?_; clear X; intro hQ X hL; simp only [zF, zG] at hL; simp only [zF, zG])
     refine Zm ?_
     refine Zg ?_
     refine Zm ?_
     refine Zk ?_
     refine Zk ?_
     refine Zk ?_
     refine Zk ?_
     refine Zk ?_
     refine Zk ?_
     refine Zk ?_
     refine Zk ?_
     refine Zk ?_
     refine Zk ?_
     refine Zk ?_
     refine Zk ?_
     refine Zg ?_
     refine q_nil ?_
     go_wp2_with (first
      | (refine ZyL ?_) | (refine ZyS ?_; clear X; intro w X) | (refine ZyA ?_; clear X; intro g w X))
     go_meet
     exact ⟨_, _, _, _, _, _, _, _, _, rfl, rfl, X⟩
    ·have hAl := fun w h => K.rvk j.now a.h a.b (.slice v.nm.a j.now.mt.length v.nm.c) (.slice v.nd.a j.now.dt.length v.nd.c) (.slice v.nr.a j.now.rev.length v.nr.c) w h
     have eT : rvkT j.now a.h a.b = T := by rw [<- hTT.out]; unfold altT; rw [if_neg (by omega), if_neg (by omega), if_neg (by omega), if_neg (by omega)]
     have eE : E = orE (rvkE j.now a.h a.b) ((0 : Int) = 0) 8 := by rw [<- hE.out]; unfold altE; rw [if_neg (by omega), if_neg (by omega), if_neg (by omega), if_neg (by omega), if_pos hk, hrole.out]
     rw [eT] at hAl
     obtain rfl : TO = 0 := by rw [<- hTO.out]; unfold altTo; rw [if_neg (by omega), if_neg (by omega), if_pos hk]
     simp only [txnV] at hAl
     have hblk : rvkE j.now a.h a.b = 0 -> 0 <= a.b /\ a.b < 12 := fun h => of_decide_eq_true (blk_of4 h)
     clear eT hE hTT hTO hrole
     have q1 : (a.kind == 1) = false := by rw [hk]; rfl
     have q5 : (a.kind == 5) = false := by rw [hk]; rfl
     have q2 : (a.kind == 2) = false := by rw [hk]; rfl
     have q3 : (a.kind == 3) = false := by rw [hk]; rfl
     have q4 : (a.kind == 4) = true := by rw [hk]; rfl
     clear hk
     unfold orE at eE
     generalize rvkE j.now a.h a.b = c at *
     have hc : ¬ c = 0 := fun h => by have := hblk h; omega
     have c0 : (c == 0) = false := beq_eq_false_iff_ne.2 hc
     obtain rfl : E = c := by rw [eE]; simp [hc]
     clear eE hc hblk
     replace hAl := hid hAl
     go_wp2_with (first
      | (refine ZyL ?_) | (refine ZyS ?_; clear X; intro w X) | (refine ZyA ?_; clear X; intro g w X))
     have X9 := X.perm ((List.perm_append_comm (l₁ := [_]) (l₂ := [_, _])).append_right _)
     simp only [List.cons_append, List.nil_append] at X9
     clear X
     have X := X9
     clear X9
     (refine q_startS 2 [] [8, 12] [3, 5, 7] [0, 1, 2, 3, 4, 5, 6, 7, 8, 9, 10, 11, 12, 13] X ?_; clear X; intro hQ X hL; simp only [zF, zG] at hL; simp only [zF, zG])
     refine Zm ?_
     refine Zn ?_
     refine Zf ?_
     refine Zl ?_
     refine Zf ?_
     refine Zl ?_
     refine Zf ?_
     refine Zl ?_
     (refine q_callS 64 Tryz.func64 (hAl.out _ (X.jNow hsz.out (fun r hr => List.mem_append_left _ hr))) ?_; rintro e w1 ⟨vm', vd', vr', rfl, hN, hb1⟩; replace X := X.addT hb1 hN Zfl Zfl Zfl; clear hb1 hN; obtain ⟨am, cm, rfl, _⟩ := X.r0.form; obtain ⟨ad, cd, rfl, _⟩ := X.r1.form; obtain ⟨ar, cr, rfl, _⟩ := X.r2.form; refine Zce ?_; clear hL; intro hL)
     refine Zm ?_
     refine Zx ?_
     refine Zx ?_
     (refine Zs ?_; clear hL X; intro w X hL)
     refine Za ?_
     refine q_nil ?_
     have X9 := X.perm ((List.perm_append_comm (l₁ := [_, _]) (l₂ := [_])).append_right _)
     simp only [List.cons_append, List.nil_append] at X9
     clear X
     have X := X9
     clear X9
     go_wp2_with (first
      | (refine ZyL ?_) | (refine ZyS ?_; clear X; intro w X) | (refine ZyA ?_; clear X; intro g w X))
     go_meet
     exact ⟨_, _, _, _, _, _, _, _, _, rfl, rfl, X⟩
    ·have hSt := fun w h => K.stop j.now a.h (.slice v.nm.a j.now.mt.length v.nm.c) (.slice v.nd.a j.now.dt.length v.nd.c) (.slice v.nr.a j.now.rev.length v.nr.c) w h
     have eE : stopE j.now a.h = E := by rw [<- hE.out]; unfold altE; rw [if_neg (by omega), if_pos hk]
     have eT : stopT j.now a.h = T := by rw [<- hTT.out]; unfold altT; rw [if_neg (by omega), if_pos hk]
     have hT := stopT_eq' j.now a.h
     rw [eT] at hT
     rw [eE, eT] at hSt
     obtain rfl : TO = 0 := by rw [<- hTO.out, <- hrole.out]; unfold altTo; rw [if_neg (by omega), if_neg (by omega), if_neg (by omega)]
     simp only [txnV] at hSt
     replace hSt := hid hSt; replace hT := hid hT
     clear eE eT hE hTT hTO hrole
     have q1 : (a.kind == 1) = false := by rw [hk]; rfl
     have q5 : (a.kind == 5) = true := by rw [hk]; rfl
     clear hk
     go_wp2_with (first
      | (refine ZyL ?_) | (refine ZyS ?_; clear X; intro w X) | (refine ZyA ?_; clear X; intro g w X))
     have X9 := X.perm ((List.perm_append_comm (l₁ := [_]) (l₂ := [_, _])).append_right _)
     simp only [List.cons_append, List.nil_append] at X9
     clear X
     have X := X9
     clear X9
     (refine q_startS 2 [] [6, 10] [3, 5] [0, 1, 2, 3, 4, 5, 6, 7, 8, 9, 10, 11] X ?_; clear X; intro hQ X hL; simp only [zF, zG] at hL; simp only [zF, zG])
     refine Zm ?_
     refine Zn ?_
     refine Zf ?_
     refine Zl ?_
     refine Zf ?_
     refine Zl ?_
     (refine q_callS 61 Tryz.func61 (hSt.out _ (X.jNow hsz.out (fun r hr => List.mem_append_left _ hr))) ?_; rintro e w1 ⟨rfl, hb1⟩; replace X := X.call hb1; clear hb1; refine Zce ?_; clear hL; intro hL)
     refine Zm ?_
     refine Zx ?_
     refine Zx ?_
     (refine Zs ?_; clear hL X; intro w X hL)
     refine Za ?_
     refine q_nil ?_
     replace hT := hT.out
     have X9 := X.perm ((List.perm_append_comm (l₁ := [_, _]) (l₂ := [_])).append_right _)
     simp only [List.cons_append, List.nil_append] at X9
     clear X
     have X := X9
     clear X9
     go_wp2
     go_meet
     exact ⟨_, _, _, _, _, _, _, _, _, rfl, rfl, (X.rds (fun r hr => (List.mem_cons.1 hr).elim (fun h => by rw [h, hT.1]; exact Zfl) (fun hr => (List.mem_cons.1 hr).elim (fun h => by rw [h, hT.2.1]; exact Zfl) (fun hr => (List.mem_cons.1 hr).elim (fun h => by rw [h, hT.2.2]; exact Zfl) (fun hr => hr)))))⟩
   clear X
   obtain ⟨am, ad, ar, nm, nd, nr, cm, cd, cr, rfl, rfl, X⟩ := hcut
   obtain rfl : nm = T.mt.length := by obtain ⟨_, _, h1, _⟩ := (X.rd _ (.head _)).1; simp only [Rd.of, Value.slice.injEq] at h1; exact h1.2.1
   obtain rfl : nd = T.dt.length := by obtain ⟨_, _, h1, _⟩ := (X.rd _ (.tail _ (.head _))).1; simp only [Rd.of, Value.slice.injEq] at h1; exact h1.2.1
   obtain rfl : nr = T.rev.length := by obtain ⟨_, _, h1, _⟩ := (X.rd _ (.tail _ (.tail _ (.head _)))).1; simp only [Rd.of, Value.slice.injEq] at h1; exact h1.2.1
   clear hE hTT hTO hFit
   by_cases hE0 : E = 0
   ·have hE1 : altE j a = 0 := hE9.out.trans hE0
    have hnb : ¬ isBlk a.b = true := fun h => hb (of_decide_eq_true h)
    have hk4 : ¬ a.kind = 4 := fun hk => hnb (alt_blk (.inr (.inr hk)) hE1)
    have hJ : changeJ j a = ({ j with now := T }, 0) := by unfold changeJ; rw [if_pos hE1, hTT9.out, if_neg (fun h => hnb h.1), if_neg hk4]
    have hI2 := hI.out
    rw [hJ] at hI2
    dsimp only at hI2
    replace hI := hid hI2
    have f4 : (a.kind == 4) = false := beq_eq_false_iff_ne.2 hk4
    replace hJ := hid hJ; clear hI2 hk4 hnb hE1 hb
    subst hE0
    unfold jCells at X
    go_wp2_with (first
     | (refine ZyL ?_) | (refine ZyS ?_; clear X; intro w X) | (refine ZyA ?_; clear X; intro g w X))
    go_ret
    rw [hJ.out]
    dsimp only
    first
     | exact JMk1 (v := { v with nm := ⟨am, cm⟩, nd := ⟨ad, cd⟩, nr := ⟨ar, cr⟩ }) [_, _] X ⟨hm.out.dn, hm.out.us, hm.out.dmap, hm.out.fmap, hm.out.dfit, hm.out.ffit, hI.out, hm.out.sz⟩ (jRds_sub Zfl Zfl Zfl Zfl Zfl Zfl Zfl Zfl Zfl Zfl (fun r hr => .tail _ (.tail _ (.tail _ (inF_in r hr)))) (fun r hr => .tail _ (.tail _ (.tail _ (inD_in r hr)))) (fun r hr => .tail _ (.tail _ (.tail _ (List.mem_append_right _ hr))))) rfl
     | exact JMk2 (v := { v with nm := ⟨am, cm⟩, nd := ⟨ad, cd⟩, nr := ⟨ar, cr⟩ }) [_, _] X ⟨hm.out.dn, hm.out.us, hm.out.dmap, hm.out.fmap, hm.out.dfit, hm.out.ffit, hI.out, hm.out.sz⟩ (jRds_sub Zfl Zfl Zfl Zfl Zfl Zfl Zfl Zfl Zfl Zfl (fun r hr => .tail _ (.tail _ (.tail _ (inF_in r hr)))) (fun r hr => .tail _ (.tail _ (.tail _ (inD_in r hr)))) (fun r hr => .tail _ (.tail _ (.tail _ (List.mem_append_right _ hr))))) rfl
   ·have hJ : changeJ j a = (j, E) := by unfold changeJ; rw [hE9.out, if_neg hE0]
    have f0 : (E != 0) = true := by simpa using hE0
    clear hE0
    replace hJ := hid hJ
    go_wp2_with (first
     | (refine ZyL ?_) | (refine ZyS ?_; clear X; intro w X) | (refine ZyA ?_; clear X; intro g w X))
    go_ret
    rw [hJ.out]
    dsimp only
    first
     | exact JMk1 (v := v) [_, _] X hm.out (fun r hr => .tail _ (.tail _ (.tail _ hr))) rfl
     | exact JMk2 (v := v) [_, _] X hm.out (fun r hr => .tail _ (.tail _ (.tail _ hr))) rfl
end Go.Proofs.YtjhmfljlclajnadGreatDoor
