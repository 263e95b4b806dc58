/- Parts of the proof: JwG JnL JnS. -/
import Derived.Test.YtjhmfljlclajnadGreatDoorKTopOrdered5
set_option linter.unusedVariables false
set_option linter.unusedSimpArgs false
set_option maxRecDepth 100000
set_option maxHeartbeats 40000000
namespace Wb
open Go Go.RowKit
theorem InvJ.goods {j : Jn} (h : InvJ j) : ∀ t ∈ j.done, goodT t = true := by
 cases h with
 | idle hd hw hu hn hs => exact hu.log.goods
 | sealing d r us k hd hw hu => exact hu.log.goods
 | homing d k hd hw hu => exact hu.log.goods
 | off hj hu => rw [hj]; intro t ht; cases ht
 | rising d k hj hu hk hdk => rw [hj]; intro t ht; cases ht
theorem nth_roles (v : JV) (j : Jn) {k : Nat} (hk : k < 12) : nth (jCells v j) (27 + k) = some (.int .i64 (j.roles k)) := by
 have h : k = 0 \/ k = 1 \/ k = 2 \/ k = 3 \/ k = 4 \/ k = 5 \/ k = 6 \/ k = 7 \/ k = 8 \/ k = 9 \/ k = 10 \/ k = 11 := by omega
 rcases h with rfl | rfl | rfl | rfl | rfl | rfl | rfl | rfl | rfl | rfl | rfl | rfl <;> rfl
theorem nth_freed (v : JV) (j : Jn) {k : Nat} (hk : k < 12) : nth (jCells v j) (39 + k) = some (.int .i64 (j.freed k)) := by
 have h : k = 0 \/ k = 1 \/ k = 2 \/ k = 3 \/ k = 4 \/ k = 5 \/ k = 6 \/ k = 7 \/ k = 8 \/ k = 9 \/ k = 10 \/ k = 11 := by omega
 rcases h with rfl | rfl | rfl | rfl | rfl | rfl | rfl | rfl | rfl | rfl | rfl | rfl <;> rfl
end Wb
namespace Go.Proofs.YtjhmfljlclajnadGreatDoor
open Go.RowKit Wb
instance : SlT Tryz.prog 124 37 1 24 := ⟨Elem.mk' (z := .slice none 0 0) Tryz.underlying124 (by kernel_rfl) rfl, by decide, by decide, by decide⟩
theorem jr_read (K : JK) {S : List Nat} {w0 w : World} {L : List Ent} {R : List Rd} {gj : Nat} {j : Jn} {M : List Ent} {Rj : List Rd} (F : JF gj j M Rj) (X : St S w0 w (M ++ L) (Rj ++ R)) (b : Int) :
    Calls Tryz.prog 30 #[.pointer (some ⟨gj, 0, none⟩), .int .i64 b] w fun e w' => ∃ M' Rj', e = .returned (readJ j b).val /\ JF gj j M' Rj' /\ St S w0 w' (M' ++ L) (Rj' ++ R) := by
 obtain ⟨v, ds, fs, MD, MU, hm, rfl, rfl⟩ := F
 have hsz := hm.inv.sz hm.sz
 have hdk := hsz.dk
 rw [List.cons_append, List.append_assoc] at X
 unfold jCells at X
 by_cases hb : isBlk b = true
 ·have hb2 : 0 <= b /\ b < 12 := of_decide_eq_true hb
  have hJ : readJ j b = ⟨0, j.roles b, (firstC j b).getD (readD j.disk (25 + b))⟩ := by unfold readJ; rw [if_pos hb]
  rw [hJ]
  clear hJ hb
  obtain ⟨n, rfl⟩ : ∃ n : Nat, b = n := ⟨b.toNat, by omega⟩
  have hn12 : n < 12 := by omega
  clear hb2
  have hro := nth_roles v j hn12
  have hwb : IntKind.i64.wrap (25 + (n : Int)) = 25 + (n : Int) := IntWalk.i64_in _ (by omega)
  have hNw := fun v w (h : RTxns w v j.done) => K.newest j.done hm.inv.goods v w h
  have hnl : (newestL j.done).length <= 5864062014805 := Nat.le_trans (newestL_len _) (by decide)
  have hGt := fun (l : List Cpy) v w (h : RL cpyC w v l) (hl : l.length <= 5864062014805) => K.get l (n : Int) v w h hl
  have hRd := fun v w (h : RDisk w v j.disk) => K.read j.disk (25 + (n : Int)) v w h
  have hfc : firstC j n = (getC j.now.mt (n : Int)).or ((getC j.now.dt (n : Int)).or ((getC j.sealed.mt (n : Int)).or ((getC j.sealed.dt (n : Int)).or (getC (newestL j.done) (n : Int))))) := rfl
  generalize firstC j n = fc at *
  generalize readD j.disk (25 + (n : Int)) = rd at *
  generalize readE j.disk (25 + (n : Int)) = re at *
  generalize newestL j.done = NL at *
  replace hNw := hid hNw; replace hGt := hid hGt; replace hRd := hid hRd; replace hfc := hid hfc; replace hm := hid hm; replace hsz := hid hsz
  go_enter Tryz.func30, Tryz.ntmps30
  go_upto_region 3 with (first
   | (refine ZyL ?_) | (refine ZyS ?_; clear X; intro w X) | (refine ZyA ?_; clear X; intro g w X))
  (refine q_startS 2 [] [24, 25] [4, 9, 14, 19, 23] [0, 1, 2, 3, 4, 5, 6, 7, 8, 9, 10, 11, 12, 13, 14, 15, 16, 17, 18, 19, 20, 21, 22, 23, 27, 24, 25, 26] X ?_; clear X; intro hQ X hL; simp only [zF, zG] at hL; simp only [zF, zG])
  refine Zm ?_
  refine Zn ?_
  refine Zf ?_
  refine Zf ?_
  refine Zl ?_
  refine Zm ?_
  refine Zn ?_
  refine Zf ?_
  refine Zf ?_
  refine Zl ?_
  refine Zm ?_
  refine Zn ?_
  refine Zf ?_
  refine Zf ?_
  refine Zl ?_
  refine Zm ?_
  refine Zn ?_
  refine Zf ?_
  refine Zf ?_
  refine Zl ?_
  refine Zm ?_
  refine Zn ?_
  refine Zf ?_
  refine Zl ?_
  refine Zm ?_
  (refine q_callS 57 Tryz.func57 (hNw.out _ _ (St.jDone (A := [_, _]) (T := MU ++ L) (MU := MU) X hm.out hsz.out (fun r hr => List.mem_append_left _ hr))) ?_; rintro e w1 ⟨v1, rfl, ho1, hb1⟩; obtain ⟨a1, c1, rfl⟩ := ho1.form; replace X := X.addOwn hb1 ho1; clear hb1 ho1; refine Zce ?_; clear hL; intro hL)
  (refine q_build5 rfl rfl Zev Zev Zev Zev Zev rfl rfl rfl rfl rfl X hL rfl rfl ?_; intro g w X2 hL2; replace X := X2; replace hL := hL2; clear X2 hL2; (simp only [Act.put, zA, zB, zC, zD, zE, zF, zG, Nat.reduceAdd]))
  refine Zg ?_
  refine q_nil ?_
  go_wp2_with (first
   | (refine ZyL ?_) | (refine ZyS ?_; clear X; intro w X) | (refine ZyA ?_; clear X; intro g w X))
  have m0 : Rd.of cpyC (.slice v.nm.a j.now.mt.length v.nm.c) j.now.mt ∈ Rd.of cpyC (.slice a1 NL.length c1) NL :: (jRds v j ds fs ++ R) := (.tail _ (List.mem_append_left _ (.tail _ (.tail _ (.head _)))))
  have m1 : Rd.of cpyC (.slice v.nd.a j.now.dt.length v.nd.c) j.now.dt ∈ Rd.of cpyC (.slice a1 NL.length c1) NL :: (jRds v j ds fs ++ R) := (.tail _ (List.mem_append_left _ (.tail _ (.tail _ (.tail _ (.head _))))))
  have m2 : Rd.of cpyC (.slice v.sm.a j.sealed.mt.length v.sm.c) j.sealed.mt ∈ Rd.of cpyC (.slice a1 NL.length c1) NL :: (jRds v j ds fs ++ R) := (.tail _ (List.mem_append_left _ (.tail _ (.tail _ (.tail _ (.tail _ (.tail _ (.head _))))))))
  have m3 : Rd.of cpyC (.slice v.sd.a j.sealed.dt.length v.sd.c) j.sealed.dt ∈ Rd.of cpyC (.slice a1 NL.length c1) NL :: (jRds v j ds fs ++ R) := (.tail _ (List.mem_append_left _ (.tail _ (.tail _ (.tail _ (.tail _ (.tail _ (.tail _ (.head _)))))))))
  have m4 : Rd.of cpyC (.slice a1 NL.length c1) NL ∈ Rd.of cpyC (.slice a1 NL.length c1) NL :: (jRds v j ds fs ++ R) := .head _
  clear hNw
  obtain ⟨g5, g4, rfl, rfl⟩ := X.nm2
  go_loopw [45] (fun i wr => ∃ k : Nat, k <= 5 /\ i = .int .i64 k /\ ((0 < k -> getC j.now.mt (n : Int) = none) /\ (1 < k -> getC j.now.dt (n : Int) = none) /\ (2 < k -> getC j.sealed.mt (n : Int) = none) /\ (3 < k -> getC j.sealed.dt (n : Int) = none) /\ (4 < k -> getC NL (n : Int) = none)) /\ St S w0 wr (⟨g5, [.slice v.nm.a j.now.mt.length v.nm.c, .slice v.nd.a j.now.dt.length v.nd.c, .slice v.sm.a j.sealed.mt.length v.sm.c, .slice v.sd.a j.sealed.dt.length v.sd.c, .slice a1 NL.length c1], 37⟩ :: ⟨g4, [.int .i64 0, .int .i64 0, .string ⟨#[]⟩], 32⟩ :: ⟨gj, jCells v j, 71⟩ :: (MD ++ (MU ++ L))) (Rd.of cpyC (.slice a1 NL.length c1) NL :: (jRds v j ds fs ++ R))) (fun i _ => 5 - (intOf i).toNat)
  case atStart => exact ⟨0, by omega, rfl, ⟨fun h => absurd h (by omega), fun h => absurd h (by omega), fun h => absurd h (by omega), fun h => absurd h (by omega), fun h => absurd h (by omega)⟩, X⟩
  case round =>
   clear X
   obtain ⟨k, hk, rfl, hn, X⟩ := hrel
   unfold jCells at X
   have h5 : k = 0 \/ k = 1 \/ k = 2 \/ k = 3 \/ k = 4 \/ k = 5 := by omega
   rcases h5 with rfl | rfl | rfl | rfl | rfl | rfl
   ·have hg := hGt.out j.now.mt
    clear hn
    cases hq : getC j.now.mt (n : Int) with
    | some s0 =>
     rw [hq] at hg
     have hfs : fc = some s0 := by rw [hfc.out]; simp only [hq]; rfl
     subst hfs
     simp only [Option.getD_some, Option.isSome_some] at hg ⊢
     replace hg := hid hg
     clear hfc hq
     go_wp2_with (first
      | (refine ZyL ?_) | (refine ZyS ?_; clear X; intro w X) | (refine ZyA ?_; clear X; intro g w X)
      | (go_at_call 58; ((with_reducible refine (hg.out _ _ (X.read m0) (by have := hsz.out.now; omega)).mono ?_); rintro e w1 ⟨rfl, hb1⟩; replace X := X.call hb1; clear hb1))
      | (refine at_mem rfl ?_; refine at_load rfl ?_; refine c_load1 rfl _ _ rfl rfl X (by first | exact ReadA.here hro | exact ReadA.there (ReadA.here hro) | exact ReadA.there (ReadA.there (ReadA.here hro))) ?_; (simp only [Act.put, zA, zB, zC, zD, zE, zF, zG, Nat.reduceAdd])))
     refine m_ret1 rfl (.tmp rfl rfl) X (.tail _ (.head _)) rfl rfl ?_
     first
      | exact JMk1 (v := v) [_, _] X hm.out (fun r hr => .tail _ hr) rfl
      | exact JMk2 (v := v) [_, _] X hm.out (fun r hr => .tail _ hr) rfl
    | none =>
     rw [hq] at hg
     simp only [Option.getD_none, Option.isSome_none] at hg
     replace hg := hid hg
     replace hq := hid hq
     go_wp2_with (first
      | (refine ZyL ?_) | (refine ZyS ?_; clear X; intro w X) | (refine ZyA ?_; clear X; intro g w X)
      | (go_at_call 58; ((with_reducible refine (hg.out _ _ (X.read m0) (by have := hsz.out.now; omega)).mono ?_); rintro e w1 ⟨rfl, hb1⟩; replace X := X.call hb1; clear hb1)))
     go_roundw
     case rel => exact ⟨1, by omega, rfl, ⟨fun _ => by first | exact trivial | exact hq.out | rfl, fun h => absurd h (by omega), fun h => absurd h (by omega), fun h => absurd h (by omega), fun h => absurd h (by omega)⟩, X⟩
     case measure => simp [intOf]
   ·have hg := hGt.out j.now.dt
    have h0 := hn.1 (by omega)
    clear hn
    cases hq : getC j.now.dt (n : Int) with
    | some s0 =>
     rw [hq] at hg
     have hfs : fc = some s0 := by rw [hfc.out]; simp only [h0, hq]; rfl
     subst hfs
     simp only [Option.getD_some, Option.isSome_some] at hg ⊢
     replace hg := hid hg
     clear hfc hq
     go_wp2_with (first
      | (refine ZyL ?_) | (refine ZyS ?_; clear X; intro w X) | (refine ZyA ?_; clear X; intro g w X)
      | (go_at_call 58; ((with_reducible refine (hg.out _ _ (X.read m1) (by have := hsz.out.now; omega)).mono ?_); rintro e w1 ⟨rfl, hb1⟩; replace X := X.call hb1; clear hb1))
      | (refine at_mem rfl ?_; refine at_load rfl ?_; refine c_load1 rfl _ _ rfl rfl X (by first | exact ReadA.here hro | exact ReadA.there (ReadA.here hro) | exact ReadA.there (ReadA.there (ReadA.here hro))) ?_; (simp only [Act.put, zA, zB, zC, zD, zE, zF, zG, Nat.reduceAdd])))
     refine m_ret1 rfl (.tmp rfl rfl) X (.tail _ (.head _)) rfl rfl ?_
     first
      | exact JMk1 (v := v) [_, _] X hm.out (fun r hr => .tail _ hr) rfl
      | exact JMk2 (v := v) [_, _] X hm.out (fun r hr => .tail _ hr) rfl
    | none =>
     rw [hq] at hg
     simp only [Option.getD_none, Option.isSome_none] at hg
     replace hg := hid hg
     replace hq := hid hq
     go_wp2_with (first
      | (refine ZyL ?_) | (refine ZyS ?_; clear X; intro w X) | (refine ZyA ?_; clear X; intro g w X)
      | (go_at_call 58; ((with_reducible refine (hg.out _ _ (X.read m1) (by have := hsz.out.now; omega)).mono ?_); rintro e w1 ⟨rfl, hb1⟩; replace X := X.call hb1; clear hb1)))
     go_roundw
     case rel => exact ⟨2, by omega, rfl, ⟨fun _ => h0, fun _ => by first | exact trivial | exact hq.out | rfl, fun h => absurd h (by omega), fun h => absurd h (by omega), fun h => absurd h (by omega)⟩, X⟩
     case measure => simp [intOf]
   ·have hg := hGt.out j.sealed.mt
    have h0 := hn.1 (by omega)
    have h1 := hn.2.1 (by omega)
    clear hn
    cases hq : getC j.sealed.mt (n : Int) with
    | some s0 =>
     rw [hq] at hg
     have hfs : fc = some s0 := by rw [hfc.out]; simp only [h0, h1, hq]; rfl
     subst hfs
     simp only [Option.getD_some, Option.isSome_some] at hg ⊢
     replace hg := hid hg
     clear hfc hq
     go_wp2_with (first
      | (refine ZyL ?_) | (refine ZyS ?_; clear X; intro w X) | (refine ZyA ?_; clear X; intro g w X)
      | (go_at_call 58; ((with_reducible refine (hg.out _ _ (X.read m2) (by have := hsz.out.sealed; omega)).mono ?_); rintro e w1 ⟨rfl, hb1⟩; replace X := X.call hb1; clear hb1))
      | (refine at_mem rfl ?_; refine at_load rfl ?_; refine c_load1 rfl _ _ rfl rfl X (by first | exact ReadA.here hro | exact ReadA.there (ReadA.here hro) | exact ReadA.there (ReadA.there (ReadA.here hro))) ?_; (simp only [Act.put, zA, zB, zC, zD, zE, zF, zG, Nat.reduceAdd])))
     refine m_ret1 rfl (.tmp rfl rfl) X (.tail _ (.head _)) rfl rfl ?_
     first
      | exact JMk1 (v := v) [_, _] X hm.out (fun r hr => .tail _ hr) rfl
      | exact JMk2 (v := v) [_, _] X hm.out (fun r hr => .tail _ hr) rfl
    | none =>
     rw [hq] at hg
     simp only [Option.getD_none, Option.isSome_none] at hg
     replace hg := hid hg
     replace hq := hid hq
     go_wp2_with (first
      | (refine ZyL ?_) | (refine ZyS ?_; clear X; intro w X) | (refine ZyA ?_; clear X; intro g w X)
      | (go_at_call 58; ((with_reducible refine (hg.out _ _ (X.read m2) (by have := hsz.out.sealed; omega)).mono ?_); rintro e w1 ⟨rfl, hb1⟩; replace X := X.call hb1; clear hb1)))
     go_roundw
     case rel => exact ⟨3, by omega, rfl, ⟨fun _ => h0, fun _ => h1, fun _ => by first | exact trivial | exact hq.out | rfl, fun h => absurd h (by omega), fun h => absurd h (by omega)⟩, X⟩
     case measure => simp [intOf]
   ·have hg := hGt.out j.sealed.dt
    have h0 := hn.1 (by omega)
    have h1 := hn.2.1 (by omega)
    have h2 := hn.2.2.1 (by omega)
    clear hn
    cases hq : getC j.sealed.dt (n : Int) with
    | some s0 =>
     rw [hq] at hg
     have hfs : fc = some s0 := by rw [hfc.out]; simp only [h0, h1, h2, hq]; rfl
     subst hfs
     simp only [Option.getD_some, Option.isSome_some] at hg ⊢
     replace hg := hid hg
     clear hfc hq
     go_wp2_with (first
      | (refine ZyL ?_) | (refine ZyS ?_; clear X; intro w X) | (refine ZyA ?_; clear X; intro g w X)
      | (go_at_call 58; ((with_reducible refine (hg.out _ _ (X.read m3) (by have := hsz.out.sealed; omega)).mono ?_); rintro e w1 ⟨rfl, hb1⟩; replace X := X.call hb1; clear hb1))
      | (refine at_mem rfl ?_; refine at_load rfl ?_; refine c_load1 rfl _ _ rfl rfl X (by first | exact ReadA.here hro | exact ReadA.there (ReadA.here hro) | exact ReadA.there (ReadA.there (ReadA.here hro))) ?_; (simp only [Act.put, zA, zB, zC, zD, zE, zF, zG, Nat.reduceAdd])))
     refine m_ret1 rfl (.tmp rfl rfl) X (.tail _ (.head _)) rfl rfl ?_
     first
      | exact JMk1 (v := v) [_, _] X hm.out (fun r hr => .tail _ hr) rfl
      | exact JMk2 (v := v) [_, _] X hm.out (fun r hr => .tail _ hr) rfl
    | none =>
     rw [hq] at hg
     simp only [Option.getD_none, Option.isSome_none] at hg
     replace hg := hid hg
     replace hq := hid hq
     go_wp2_with (first
      | (refine ZyL ?_) | (refine ZyS ?_; clear X; intro w X) | (refine ZyA ?_; clear X; intro g w X)
      | (go_at_call 58; ((with_reducible refine (hg.out _ _ (X.read m3) (by have := hsz.out.sealed; omega)).mono ?_); rintro e w1 ⟨rfl, hb1⟩; replace X := X.call hb1; clear hb1)))
     go_roundw
     case rel => exact ⟨4, by omega, rfl, ⟨fun _ => h0, fun _ => h1, fun _ => h2, fun _ => by first | exact trivial | exact hq.out | rfl, fun h => absurd h (by omega)⟩, X⟩
     case measure => simp [intOf]
   ·have hg := hGt.out NL
    have h0 := hn.1 (by omega)
    have h1 := hn.2.1 (by omega)
    have h2 := hn.2.2.1 (by omega)
    have h3 := hn.2.2.2.1 (by omega)
    clear hn
    cases hq : getC NL (n : Int) with
    | some s0 =>
     rw [hq] at hg
     have hfs : fc = some s0 := by rw [hfc.out]; simp only [h0, h1, h2, h3, hq]; rfl
     subst hfs
     simp only [Option.getD_some, Option.isSome_some] at hg ⊢
     replace hg := hid hg
     clear hfc hq
     go_wp2_with (first
      | (refine ZyL ?_) | (refine ZyS ?_; clear X; intro w X) | (refine ZyA ?_; clear X; intro g w X)
      | (go_at_call 58; ((with_reducible refine (hg.out _ _ (X.read m4) hnl).mono ?_); rintro e w1 ⟨rfl, hb1⟩; replace X := X.call hb1; clear hb1))
      | (refine at_mem rfl ?_; refine at_load rfl ?_; refine c_load1 rfl _ _ rfl rfl X (by first | exact ReadA.here hro | exact ReadA.there (ReadA.here hro) | exact ReadA.there (ReadA.there (ReadA.here hro))) ?_; (simp only [Act.put, zA, zB, zC, zD, zE, zF, zG, Nat.reduceAdd])))
     refine m_ret1 rfl (.tmp rfl rfl) X (.tail _ (.head _)) rfl rfl ?_
     first
      | exact JMk1 (v := v) [_, _] X hm.out (fun r hr => .tail _ hr) rfl
      | exact JMk2 (v := v) [_, _] X hm.out (fun r hr => .tail _ hr) rfl
    | none =>
     rw [hq] at hg
     simp only [Option.getD_none, Option.isSome_none] at hg
     replace hg := hid hg
     replace hq := hid hq
     go_wp2_with (first
      | (refine ZyL ?_) | (refine ZyS ?_; clear X; intro w X) | (refine ZyA ?_; clear X; intro g w X)
      | (go_at_call 58; ((with_reducible refine (hg.out _ _ (X.read m4) hnl).mono ?_); rintro e w1 ⟨rfl, hb1⟩; replace X := X.call hb1; clear hb1)))
     go_roundw
     case rel => exact ⟨5, by omega, rfl, ⟨fun _ => h0, fun _ => h1, fun _ => h2, fun _ => h3, fun _ => by first | exact trivial | exact hq.out | rfl⟩, X⟩
     case measure => simp [intOf]
   ·have h0 := hn.1 (by omega)
    have h1 := hn.2.1 (by omega)
    have h2 := hn.2.2.1 (by omega)
    have h3 := hn.2.2.2.1 (by omega)
    have h4 := hn.2.2.2.2 (by omega)
    clear hn
    have hfs : fc = none := by rw [hfc.out]; simp only [h0, h1, h2, h3, h4]; rfl
    subst hfs
    (try simp only [Option.getD_none])
    clear hfc h0 h1 h2 h3 h4
    go_wp2_with (first
     | (refine ZyL ?_) | (refine ZyS ?_; clear X; intro w X) | (refine ZyA ?_; clear X; intro g w X)
     | (go_at_call 23; ((with_reducible refine (hRd.out _ _ (X.jDisk hdk (fun r hr => List.Mem.tail _ (List.mem_append_left _ hr)))).mono ?_); rintro e w1 ⟨rfl, hb1⟩; replace X := X.call hb1; clear hb1))
     | (refine at_mem rfl ?_; refine at_load rfl ?_; refine c_load1 rfl _ _ rfl rfl X (by first | exact ReadA.here hro | exact ReadA.there (ReadA.here hro) | exact ReadA.there (ReadA.there (ReadA.here hro))) ?_; (simp only [Act.put, zA, zB, zC, zD, zE, zF, zG, Nat.reduceAdd])))
    refine m_ret1 rfl (.tmp rfl rfl) X (.tail _ (.head _)) rfl rfl ?_
    first
     | exact JMk1 (v := v) [_, _] X hm.out (fun r hr => .tail _ hr) rfl
     | exact JMk2 (v := v) [_, _] X hm.out (fun r hr => .tail _ hr) rfl
 ·have hJ : readJ j b = noR 4 := by unfold readJ; rw [if_neg hb]
  rw [hJ]
  have hb2 : ¬ (0 <= b /\ b < 12) := fun h => hb (decide_eq_true h)
  clear hJ hb
  by_cases hlt : b < 0
  ·go_enter Tryz.func30, Tryz.ntmps30
   go_wp2_with (first
    | (refine ZyL ?_) | (refine ZyS ?_; clear X; intro w X) | (refine ZyA ?_; clear X; intro g w X))
   refine m_ret1 rfl (.tmp rfl rfl) X (.head _) rfl rfl ?_
   first
    | exact JMk1 (v := v) [_] X hm (fun r hr => hr) rfl
    | exact JMk2 (v := v) [_] X hm (fun r hr => hr) rfl
  ·have hge : (12 : Int) <= b := by omega
   go_enter Tryz.func30, Tryz.ntmps30
   go_wp2_with (first
    | (refine ZyL ?_) | (refine ZyS ?_; clear X; intro w X) | (refine ZyA ?_; clear X; intro g w X))
   refine m_ret1 rfl (.tmp rfl rfl) X (.head _) rfl rfl ?_
   first
    | exact JMk1 (v := v) [_] X hm (fun r hr => hr) rfl
    | exact JMk2 (v := v) [_] X hm (fun r hr => hr) rfl
end Go.Proofs.YtjhmfljlclajnadGreatDoor
namespace Wb
open Go Go.RowKit
theorem acts_do (j : Jn) (a : Aj) : (doJ j a).1.acts = if 400 <= j.acts then j.acts else j.acts + 1 := by
 unfold doJ
 split
 ·rfl
 split
 ·rfl
 generalize hJ : ({ j with acts := j.acts + 1 } : Jn) = J
 have e : J.acts = j.acts + 1 := by rw [<- hJ]
 rw [<- e]
 split
 ·show (crashJ J a.n).1.acts = _; unfold crashJ; split <;> rfl
 split
 ·show (beginJ J).1.acts = _; unfold beginJ; split
  ·rfl
  split
  ·rfl
  split <;> rfl
 split
 ·unfold stepJ; split
  ·rfl
  split
  ·rfl
  split
  ·rfl
  split
  ·unfold endJ; split
   ·rfl
   split
   ·rfl
   split <;> rfl
  ·rfl
 split
 ·rfl
 split
 ·unfold commitJ; split
  ·rfl
  split
  ·rfl
  split
  ·rfl
  split <;> rfl
 split
 ·show (checkJ J).1.acts = _; unfold checkJ; split
  ·rfl
  split <;> rfl
 split
 ·rfl
 ·show (changeJ J a).1.acts = _; unfold changeJ; split <;> rfl
theorem inv_seen {j : Jn} (h : InvJ j) : goodR j.ring = true /\ (j.down = false -> goodT j.now = true /\ j.last < j.now.seq) := by
 cases h with
 | idle hd hw hu hn hs => exact ⟨hu.ring, fun _ => ⟨hn.good, by rw [hn.seq]; omega⟩⟩
 | sealing d r us k hd hw hu hn he hq hq2 hr hus hk hdk hst => exact ⟨by rw [hr]; exact (comR_used he).1, fun _ => ⟨hn.good, by rw [hn.seq]; omega⟩⟩
 | homing d k hd hw hu hn hs hp ha hk hdk hst => exact ⟨hu.ring, fun _ => ⟨hn.good, by rw [hn.seq]; omega⟩⟩
 | off hj hu => rw [hj]; exact ⟨(by decide : goodR ⟨0, 0⟩ = true), fun h => by cases h⟩
 | rising d k hj hu hk hdk => rw [hj]; exact ⟨(by decide : goodR ⟨0, 0⟩ = true), fun h => by cases h⟩
end Wb
