/- Parts of the proof: JnX JnY LRea Disk8 Disk7 Disk9 Disk11 Crash Disk2. -/
import Derived.Test.YtjhmfljlclajnaaGreatDoorKTopReads8
import Derived.Test.YtjhmfljlclajnaaGreatDoorKTopReads6
import Derived.Test.YtjhmfljlclajnaaGreatDoorKTopReads4
import Derived.Test.YtjhmfljlclajnaaGreatDoorKTopReads0
import Derived.Test.YtjhmfljlclajnaaGreatDoorURegCall
import Derived.Deep.RegionHeld3
import Derived.Deep.CutBlock
import Derived.Deep.DeepCutAuto
import Derived.Test.YtjhmfljlclajnaaGreatDoorUPoke
import Derived.Test.YtjhmfljlclajnaaGreatDoorKTopReads1
import Derived.Test.YtjhmfljlclajnaaGreatDoorUFit2
set_option linter.unusedVariables false
set_option linter.unusedSimpArgs false
namespace Wb
open Go Go.RowKit
theorem good_none {t : Txn} {b : Int} {s : ByteArray} (g : GoodT t) (h : getC t.dt b = some s) : getC t.mt b = none ∧ inI t.rev b = false := by
 have hd : hasB t.dt b = true := by rw [hasB_get, h]; rfl
 refine ⟨?_, ?_⟩
 ·cases hm : getC t.mt b with
  | none => rfl
  | some x =>
   have := g.ap.2 b (by rw [hasB_get, hm]; rfl)
   rw [hd] at this
   cases this
 ·cases hr : inI t.rev b with
  | false => rfl
  | true =>
   have := (g.ap.1 b hr).2
   rw [hd] at this
   cases this
theorem topT_none {t : Txn} {b : Int} (h : topT t b = none) : getC t.mt b = none ∧ getC t.dt b = none ∧ inI t.rev b = false := by
 unfold topT at h
 cases h1 : getC t.mt b with
 | some x => rw [h1] at h; cases h
 | none =>
  rw [h1] at h
  cases h2 : getC t.dt b with
  | some x => rw [h2] at h; cases h
  | none =>
   rw [h2] at h
   dsimp only at h
   cases h3 : inI t.rev b with
   | false => exact ⟨rfl, rfl, rfl⟩
   | true => rw [h3] at h; simp at h
theorem topT_some {t : Txn} {b : Int} {s : ByteArray} (h : topT t b = some (some s)) : getC t.mt b = some s ∨ getC t.dt b = some s := by
 unfold topT at h
 cases h1 : getC t.mt b with
 | some x => rw [h1] at h; cases h; exact .inl rfl
 | none =>
  rw [h1] at h
  cases h2 : getC t.dt b with
  | some x => rw [h2] at h; cases h; exact .inr rfl
  | none =>
   rw [h2] at h
   dsimp only at h
   split at h <;> cases h
theorem vi_step {j : Jn} (h : InvJ j) (hd : j.down = false) (v : VI j) : VI (stepJ j).1 ∧ ∀ b, isBlk b = true → KeepX j (stepJ j).1 b := by
 by_cases hw0 : j.work = 0
 ·have h1 : (stepJ j).1 = j := by unfold stepJ; rw [if_pos hw0]
  rw [h1]; exact ⟨v, fun b _ => KeepX.refl j b⟩
 obtain ⟨s, r, hs, he⟩ := inv_steps h hw0
 unfold stepJ
 rw [if_neg hw0, hs]
 dsimp only
 rw [if_neg (by rw [he]; decide)]
 cases h with
 | idle hd hw => exact absurd hw hw0
 | off hj hu => rw [hj] at hw0; exact absurd rfl hw0
 | rising d k hj => rw [hj] at hd; cases hd
 | sealing d rg us k _ hw hu hn hc hq hq2 hr hus hk hdk hst =>
  obtain ⟨ho, hlen⟩ := com_ok hc
  obtain ⟨_, e2, e3⟩ := step_of hu.log.good hu.log.clean ho (by omega) hk hdk (hs.symm.trans hst)
  have g := (comE_zero hc).2.1
  have hX : ∀ k b, isBlk b = true → topT j.sealed b = none → readD (runD d ((comL rg j.sealed).take k)) (25 + b) = readD d (25 + b) := fun k b hb ht =>
   com_home hc hu.log.good hu.log.clean hb (by rw [hasB_get, (topT_none ht).2.1]; rfl)
  by_cases hr0 : r = []
  ·rw [if_pos hr0]
   have hk1 : k + 1 = (comL rg j.sealed).length := by
    rw [hr0] at e3
    have := congrArg List.length e3
    rw [List.length_drop, List.length_nil] at this
    omega
   have e4 := e2
   rw [hk1, List.take_length] at e4
   unfold endJ
   dsimp only
   rw [if_pos hw]
   dsimp only
   refine ⟨⟨fun b hb hh => ?_, fun b hh => ?_, fun b hh => ?_⟩, fun b hb => ⟨fun x hx => ?_, rfl⟩⟩
   ·dsimp only at hh ⊢
    rw [newestB_snoc] at hh
    exact v.a b hb hh
   ·dsimp only at hh ⊢
    rw [newestB_snoc]
    exact v.b b hh
   ·cases hh
   ·unfold readX at hx ⊢
    dsimp only
    cases hn1 : topT j.now b with
    | some y => rw [hn1] at hx; exact hx
    | none =>
     rw [hn1] at hx
     rw [top_txn0]
     dsimp only at hx ⊢
     unfold homeX at hx ⊢
     dsimp only
     rw [newestB_snoc, e4]
     cases hs1 : topT j.sealed b with
     | some y =>
      rw [hs1] at hx
      dsimp only at hx
      subst hx
      rcases topT_some hs1 with hm | hm
      ·rw [turnT_some hm]; rfl
      ·obtain ⟨m1, m2⟩ := good_none g hm
       rw [turnT_else m1 m2, v.c b (by rw [hasB_get, hm]; rfl)]
       exact congrArg some (com_home_end hc hu.log.good hu.log.clean hb hm)
     | none =>
      rw [hs1] at hx
      dsimp only at hx
      obtain ⟨m1, m2, m3⟩ := topT_none hs1
      rw [turnT_else m1 m3, ← hx]
      have e5 := hX (comL rg j.sealed).length b hb hs1
      rw [List.take_length] at e5
      rw [e5, hdk, hX k b hb hs1]
  ·rw [if_neg hr0]
   refine ⟨vi_same v rfl rfl rfl rfl, fun b hb => ⟨fun x hx => ?_, rfl⟩⟩
   unfold readX at hx ⊢
   dsimp only
   cases hn1 : topT j.now b with
   | some y => rw [hn1] at hx; exact hx
   | none =>
    rw [hn1] at hx
    dsimp only at hx ⊢
    cases hs1 : topT j.sealed b with
    | some y => rw [hs1] at hx; exact hx
    | none =>
     rw [hs1] at hx
     dsimp only at hx ⊢
     rw [← hx]
     unfold homeX
     dsimp only
     rw [e2, hX (k + 1) b hb hs1, hdk, hX k b hb hs1]
 | homing d k _ hw hu hn hse hp ha hk hdk hst hne =>
  have hb0 := hu.log.bounds
  obtain ⟨ho, hlen⟩ := chk_ok (newestL_copies hu.log.goods) hb0.1 hb0.2.1
  obtain ⟨_, e2, e3⟩ := step_of hu.log.good hu.log.clean ho (by omega) hk hdk (hs.symm.trans hst)
  have hX : ∀ k b, isBlk b = true → newestB j.done b = none → readD (runD d ((checkL (newestL j.done) j.ring.head (j.last + 1)).take k)) (25 + b) = readD d (25 + b) := fun k b hb ht =>
   chk_home hu.log.goods hb0.1 hb0.2.1 hu.log.good hu.log.clean hb ht
  by_cases hr0 : r = []
  ·rw [if_pos hr0]
   have hk1 : k + 1 = (checkL (newestL j.done) j.ring.head (j.last + 1)).length := by
    rw [hr0] at e3
    have := congrArg List.length e3
    rw [List.length_drop, List.length_nil] at this
    omega
   have e4 := e2
   rw [hk1, List.take_length] at e4
   have hdr : j.done.drop j.pending.toNat = [] := by rw [hp, Int.toNat_natCast, List.drop_length]
   unfold endJ
   dsimp only
   rw [if_neg (by rw [hw]; decide), if_pos hw]
   dsimp only
   rw [hdr]
   refine ⟨⟨fun b hb hh => ?_, fun b hh => ?_, fun b hh => ?_⟩, fun b hb => ⟨fun x hx => ?_, rfl⟩⟩
   ·dsimp only at hh ⊢
    refine v.a b hb ?_
    rw [hse] at hh ⊢
    rw [turn_txn0] at hh ⊢
    unfold turnT at hh ⊢
    cases hm : getC j.now.mt b with
    | some y => rfl
    | none =>
     rw [hm] at hh
     dsimp only at hh
     split at hh <;> cases hh
   ·dsimp only
    rw [hse, turn_txn0]; rfl
   ·rfl
   ·unfold readX at hx ⊢
    dsimp only
    cases hn1 : topT j.now b with
    | some y => rw [hn1] at hx; exact hx
    | none =>
     rw [hn1] at hx
     rw [hse, top_txn0] at hx ⊢
     dsimp only at hx ⊢
     unfold homeX at hx ⊢
     dsimp only
     rw [e4]
     cases hm : newestB j.done b with
     | some y =>
      rw [hm] at hx
      have e5 := chk_home_end (a := j.ring.head) (q := j.last + 1) (d := d) hu.log.goods hb0.1 hb0.2.1 hu.log.good hu.log.clean hb hm
      rw [← hx]
      exact congrArg some e5
     | none =>
      rw [hm] at hx
      rw [← hx]
      have e5 := hX (checkL (newestL j.done) j.ring.head (j.last + 1)).length b hb hm
      rw [List.take_length] at e5
      rw [hdk, hX k b hb hm]
      exact congrArg some e5
  ·rw [if_neg hr0]
   refine ⟨vi_same v rfl rfl rfl rfl, fun b hb => ⟨fun x hx => ?_, rfl⟩⟩
   unfold readX at hx ⊢
   dsimp only
   cases hn1 : topT j.now b with
   | some y => rw [hn1] at hx; exact hx
   | none =>
    rw [hn1] at hx
    dsimp only at hx ⊢
    cases hs1 : topT j.sealed b with
    | some y => rw [hs1] at hx; exact hx
    | none =>
     rw [hs1] at hx
     dsimp only at hx ⊢
     rw [← hx]
     unfold homeX
     dsimp only
     cases hm : newestB j.done b with
     | some y => rfl
     | none => rw [e2, hX (k + 1) b hb hm, hdk, hX k b hb hm]
theorem vi_rise {j : Jn} (h : InvJ j) (hd : j.down = true) : VI (stepJ j).1 := by
 have hz : j.now = txn0 0 ∧ j.sealed = txn0 0 ∧ j.done = [] := by
  cases h with
  | idle hd2 => rw [hd2] at hd; cases hd
  | sealing _ _ _ _ hd2 => rw [hd2] at hd; cases hd
  | homing _ _ hd2 => rw [hd2] at hd; cases hd
  | off hj hu => rw [hj]; exact ⟨rfl, rfl, rfl⟩
  | rising d k hj hu => rw [hj]; exact ⟨rfl, rfl, rfl⟩
 by_cases hw0 : j.work = 0
 ·unfold stepJ; rw [if_pos hw0]
  exact vi_zero hz.1 hz.2.1 hz.2.2
 obtain ⟨s, r, hs, he⟩ := inv_steps h hw0
 have hw3 : j.work = 3 := by
  cases h with
  | idle hd2 => rw [hd2] at hd; cases hd
  | sealing _ _ _ _ hd2 => rw [hd2] at hd; cases hd
  | homing _ _ hd2 => rw [hd2] at hd; cases hd
  | off hj hu => rw [hj] at hw0; exact absurd rfl hw0
  | rising d k hj hu => rw [hj]
 unfold stepJ
 rw [if_neg hw0, hs]
 dsimp only
 rw [if_neg (by rw [he]; decide)]
 split
 ·unfold endJ
  dsimp only
  rw [if_neg (by omega), if_neg (by omega), if_pos hw3]
  exact vi_zero (j := riseJ _) rfl rfl rfl
 ·exact vi_zero hz.1 hz.2.1 hz.2.2
theorem InvJ.sealed0 {j : Jn} (h : InvJ j) (hw : j.work = 0) : j.sealed = txn0 0 := by
 cases h with
 | idle hd2 _ _ _ hs => exact hs
 | sealing _ _ _ _ _ hw1 => rw [hw] at hw1; exact absurd hw1 (by decide)
 | homing _ _ _ hw1 => rw [hw] at hw1; exact absurd hw1 (by decide)
 | off hj hu => rw [hj]; rfl
 | rising d k hj hu => rw [hj]; rfl
theorem InvJ.now_good {j : Jn} (h : InvJ j) (hd : j.down = false) : goodT j.now = true := by
 cases h with
 | idle _ _ _ hn => exact hn.good
 | sealing _ _ _ _ _ _ _ hn => exact hn.good
 | homing _ _ _ _ _ hn => exact hn.good
 | off hj hu => rw [hj] at hd; cases hd
 | rising d k hj hu => rw [hj] at hd; cases hd
theorem InvJ.done_good {j : Jn} (h : InvJ j) : ∀ t ∈ j.done, goodT t = true := by
 cases h with
 | idle _ _ hu => exact hu.log.goods
 | sealing _ _ _ _ _ _ hu => exact hu.log.goods
 | homing _ _ _ _ hu => exact hu.log.goods
 | off hj hu => rw [hj]; intro t ht; cases ht
 | rising d k hj hu => rw [hj]; intro t ht; cases ht
theorem step_up {j : Jn} (h : InvJ j) (hd : j.down = false) : (stepJ j).1.down = false := by
 by_cases hw0 : j.work = 0
 ·unfold stepJ; rw [if_pos hw0]; exact hd
 obtain ⟨s, r, hs, he⟩ := inv_steps h hw0
 have hw3 : j.work ≠ 3 := by
  cases h with
  | idle _ hw => rw [hw]; decide
  | sealing _ _ _ _ _ hw => rw [hw]; decide
  | homing _ _ _ hw => rw [hw]; decide
  | off hj hu => rw [hj] at hw0; exact absurd rfl hw0
  | rising d k hj hu => rw [hj] at hd; cases hd
 unfold stepJ
 rw [if_neg hw0, hs]
 dsimp only
 rw [if_neg (by rw [he]; decide)]
 split
 ·unfold endJ
  dsimp only
  split
  ·exact hd
  split
  ·exact hd
  ·exact hd
 ·exact hd
theorem reads_do {j : Jn} (a : Aj) (h : InvJ j) (v : VI j) :
    VI (doJ j a).1 ∧ ((a.kind = 2 ∨ a.kind = 3) → (doJ j a).2.code = 0 → isBlk a.b = true ∧ readX (doJ j a).1 a.b = some (fit a.text) ∧ (doJ j a).1.roles a.b ≠ 0) ∧
    ((a.kind = 10 → (doJ j a).2.code ≠ 0) → j.down = false → (doJ j a).1.down = false ∧ ∀ b, isBlk b = true → ((a.kind = 2 ∨ a.kind = 3 ∨ a.kind = 4) → (doJ j a).2.code = 0 → b ≠ a.b) → KeepX j (doJ j a).1 b) ∧
    (j.down = true → (a.kind = 2 ∨ a.kind = 3) → (doJ j a).2.code ≠ 0) := by
 have hK : ∀ (n : Int) b, KeepX j { j with acts := n } b := fun n b => ⟨fun s hs => hs, rfl⟩
 have hT : ∀ {n : Int} {k : Jn} {b : Int}, KeepX { j with acts := n } k b → KeepX j k b := fun hh => hh
 by_cases c0 : 400 ≤ j.acts
 ·have e : doJ j a = (j, noR 11) := by unfold doJ; rw [if_pos c0]
  rw [e]
  exact ⟨v, fun _ hc => absurd (show (11 : Int) = 0 from hc) (by decide), fun _ hd => ⟨hd, fun b _ _ => KeepX.refl j b⟩, fun _ _ => (show (11 : Int) ≠ 0 by decide)⟩
 have hA := h.acts (j.acts + 1)
 have vA : VI { j with acts := j.acts + 1 } := vi_same v rfl rfl rfl rfl
 by_cases c1 : a.kind < 1 ∨ 11 < a.kind
 ·have e : doJ j a = ({ j with acts := j.acts + 1 }, noR 3) := by unfold doJ; rw [if_neg c0, if_pos c1]
  rw [e]
  exact ⟨vA, fun hk => by omega, fun _ hd => ⟨hd, fun b _ _ => hK _ b⟩, fun _ hk => by omega⟩
 by_cases hk10 : a.kind = 10
 ·have e : doJ j a = noJ (crashJ { j with acts := j.acts + 1 } a.n) := by unfold doJ; rw [if_neg c0, if_neg c1, if_pos hk10]
  rw [e]
  refine ⟨?_, fun hk => by omega, fun hc hd => ?_, fun _ hk => by omega⟩
  ·show VI (crashJ _ a.n).1
   unfold crashJ
   split
   ·exact vi_zero (q := 0) (p := 0) rfl rfl rfl
   ·exact vA
  ·have hc2 := hc hk10
   have hne : ¬ crashE j.disk a.n = 0 := fun e => hc2 (by show (crashJ _ a.n).2 = 0; unfold crashJ; rw [if_pos (by exact e)])
   have e1 : (noJ (crashJ { j with acts := j.acts + 1 } a.n)).1 = { j with acts := j.acts + 1 } := by
    show (crashJ _ a.n).1 = _
    unfold crashJ
    rw [if_neg (by exact hne)]
   rw [e1]
   exact ⟨hd, fun b _ _ => hK _ b⟩
 by_cases hk11 : a.kind = 11
 ·have e : doJ j a = noJ (beginJ { j with acts := j.acts + 1 }) := by unfold doJ; rw [if_neg c0, if_neg c1, if_neg hk10, if_pos hk11]
  rw [e]
  refine ⟨?_, fun hk => by omega, fun hc hd => ?_, fun _ hk => by omega⟩
  ·show VI (beginJ _).1
   unfold beginJ
   split
   ·exact vA
   split
   ·exact vA
   split
   ·exact vi_same vA rfl rfl rfl rfl
   ·exact vi_same vA rfl rfl rfl rfl
  ·have e1 : (noJ (beginJ { j with acts := j.acts + 1 })).1 = { j with acts := j.acts + 1 } := by
     show (beginJ _).1 = _
     unfold beginJ
     rw [if_pos (.inl (by exact hd))]
   rw [e1]
   exact ⟨hd, fun b _ _ => hK _ b⟩
 by_cases hk8 : a.kind = 8
 ·have e : doJ j a = stepJ { j with acts := j.acts + 1 } := by unfold doJ; rw [if_neg c0, if_neg c1, if_neg hk10, if_neg hk11, if_pos hk8]
  rw [e]
  by_cases hdd : j.down = true
  ·exact ⟨vi_rise hA hdd, fun hk => by omega, fun _ hd2 => (Bool.false_ne_true (hd2.symm.trans hdd)).elim, fun _ hk => by omega⟩
  ·have hd : j.down = false := by simpa using hdd
   obtain ⟨s1, s2⟩ := vi_step hA hd vA
   refine ⟨s1, fun hk => by omega, fun _ _ => ⟨step_up hA hd, fun b hb _ => hT (s2 b hb)⟩, fun hd2 => (Bool.false_ne_true (hd.symm.trans hd2)).elim⟩
 by_cases hd1 : j.down = true
 ·have hd := hd1
  have e : doJ j a = ({ j with acts := j.acts + 1 }, noR 10) := by unfold doJ; rw [if_neg c0, if_neg c1, if_neg hk10, if_neg hk11, if_neg hk8, if_pos hd]
  rw [e]
  exact ⟨vA, fun hk hc => absurd (show (10 : Int) = 0 from hc) (by decide), fun _ hd2 => (Bool.false_ne_true (hd2.symm.trans hd)).elim, fun _ _ => (show (10 : Int) ≠ 0 by decide)⟩
 have hd : j.down = false := by simpa using hd1
 by_cases hk6 : a.kind = 6
 ·have e : doJ j a = commitJ { j with acts := j.acts + 1 } := by unfold doJ; rw [if_neg c0, if_neg c1, if_neg hk10, if_neg hk11, if_neg hk8, if_neg hd1, if_pos hk6]
  rw [e]
  obtain ⟨s1, s2⟩ := vi_commit (j := { j with acts := j.acts + 1 }) hA.sealed0 vA
  refine ⟨s1, fun hk => by omega, fun _ _ => ⟨?_, fun b _ _ => hT (s2 b)⟩, fun hd2 => (Bool.false_ne_true (hd.symm.trans hd2)).elim⟩
  unfold commitJ
  (repeat' split) <;> exact hd
 by_cases hk7 : a.kind = 7
 ·have e : doJ j a = noJ (checkJ { j with acts := j.acts + 1 }) := by unfold doJ; rw [if_neg c0, if_neg c1, if_neg hk10, if_neg hk11, if_neg hk8, if_neg hd1, if_neg hk6, if_pos hk7]
  rw [e]
  obtain ⟨s1, s2⟩ := vi_check vA
  refine ⟨s1, fun hk => by omega, fun _ _ => ⟨?_, fun b _ _ => hT (s2 b)⟩, fun hd2 => (Bool.false_ne_true (hd.symm.trans hd2)).elim⟩
  show (checkJ _).1.down = false
  unfold checkJ
  (repeat' split) <;> exact hd
 by_cases hk9 : a.kind = 9
 ·have e : doJ j a = ({ j with acts := j.acts + 1 }, readJ { j with acts := j.acts + 1 } a.b) := by unfold doJ; rw [if_neg c0, if_neg c1, if_neg hk10, if_neg hk11, if_neg hk8, if_neg hd1, if_neg hk6, if_neg hk7, if_pos hk9]
  rw [e]
  exact ⟨vA, fun hk => by omega, fun _ _ => ⟨hd, fun b _ _ => hK _ b⟩, fun hd2 => (Bool.false_ne_true (hd.symm.trans hd2)).elim⟩
 ·have e : doJ j a = noJ (changeJ { j with acts := j.acts + 1 } a) := by unfold doJ; rw [if_neg c0, if_neg c1, if_neg hk10, if_neg hk11, if_neg hk8, if_neg hd1, if_neg hk6, if_neg hk7, if_neg hk9]
  rw [e]
  obtain ⟨s1, s2, s3⟩ := vi_change (j := { j with acts := j.acts + 1 }) (a := a) (hA.now_good hd) vA (by omega)
  refine ⟨s1, fun hk hc => s2 hk hc, fun _ _ => ⟨?_, fun b _ hh => hT (s3 b fun hk hc => hh hk hc)⟩, fun hd2 => (Bool.false_ne_true (hd.symm.trans hd2)).elim⟩
  show (changeJ _ a).1.down = false
  unfold changeJ
  split <;> exact hd
structure TR (j : Jn) (f : Int → Option ByteArray) : Prop where
 inv : InvJ j
 vi : VI j
 down : j.down = true → ∀ b, f b = none
 has : ∀ b x, f b = some x → isBlk b = true ∧ readX j b = some x ∧ j.roles b ≠ 0
def updR (f : Int → Option ByteArray) (a : Aj) (c : Int) : Int → Option ByteArray :=
 if c ≠ 0 then f else if a.kind = 2 ∨ a.kind = 3 then (fun b => if b = a.b then some (fit a.text) else f b) else if a.kind = 4 then (fun b => if b = a.b then none else f b) else if a.kind = 10 then (fun _ => none) else f
theorem updR_bad {f : Int → Option ByteArray} {a : Aj} {c : Int} (h : c ≠ 0) : updR f a c = f := by unfold updR; rw [if_pos h]
theorem updR_put {f : Int → Option ByteArray} {a : Aj} (h : a.kind = 2 ∨ a.kind = 3) : updR f a 0 = fun b => if b = a.b then some (fit a.text) else f b := by unfold updR; rw [if_neg (by decide), if_pos h]
theorem updR_del {f : Int → Option ByteArray} {a : Aj} (h : a.kind = 4) : updR f a 0 = fun b => if b = a.b then none else f b := by unfold updR; rw [if_neg (by decide), if_neg (by omega), if_pos h]
theorem updR_new {f : Int → Option ByteArray} {a : Aj} (h : a.kind = 10) : updR f a 0 = fun _ => none := by unfold updR; rw [if_neg (by decide), if_neg (by omega), if_neg (by omega), if_pos h]
theorem updR_else {f : Int → Option ByteArray} {a : Aj} (h : ¬ (a.kind = 2 ∨ a.kind = 3)) (h4 : a.kind ≠ 4) (h10 : a.kind ≠ 10) : updR f a 0 = f := by unfold updR; rw [if_neg (by decide), if_neg h, if_neg h4, if_neg h10]
theorem tr_step {j : Jn} {f : Int → Option ByteArray} (a : Aj) (h : TR j f) : TR (doJ j a).1 (updR f a (doJ j a).2.code) := by
 obtain ⟨s1, s2, s3, s4⟩ := reads_do a h.inv h.vi
 have hi := inv_do a h.inv
 generalize hc : (doJ j a).2.code = c at *
 by_cases c0 : c = 0
 rotate_left
 ·rw [updR_bad c0]
  refine ⟨hi, s1, fun hd b => ?_, fun b x hx => ?_⟩
  ·cases hj : j.down with
   | true => exact h.down hj b
   | false =>
    have := (s3 (fun _ => c0) hj).1
    rw [hd] at this; cases this
  ·cases hj : j.down with
   | true => rw [h.down hj b] at hx; cases hx
   | false =>
    obtain ⟨k1, k2⟩ := (s3 (fun _ => c0) hj).2 b (h.has b x hx).1 (fun _ hz => absurd hz c0)
    exact ⟨(h.has b x hx).1, k1 x (h.has b x hx).2.1, by rw [k2]; exact (h.has b x hx).2.2⟩
 subst c0
 by_cases hp : a.kind = 2 ∨ a.kind = 3
 ·rw [updR_put hp]
  have hj : j.down = false := by
   cases hj : j.down with
   | false => rfl
   | true => exact absurd rfl (s4 hj hp)
  obtain ⟨t1, t2⟩ := s3 (fun hk => by omega) hj
  obtain ⟨u1, u2, u3⟩ := s2 hp rfl
  refine ⟨hi, s1, fun hd b => absurd (hd.symm.trans t1) (by decide), fun b x hx => ?_⟩
  split at hx
  ·rename_i hb
   cases hx
   rw [hb]
   exact ⟨u1, u2, u3⟩
  ·rename_i hb
   obtain ⟨k1, k2⟩ := t2 b (h.has b x hx).1 (fun _ _ => hb)
   exact ⟨(h.has b x hx).1, k1 x (h.has b x hx).2.1, by rw [k2]; exact (h.has b x hx).2.2⟩
 by_cases h4 : a.kind = 4
 ·rw [updR_del h4]
  refine ⟨hi, s1, fun hd b => ?_, fun b x hx => ?_⟩
  ·split
   ·rfl
   ·cases hj : j.down with
    | true => exact h.down hj b
    | false =>
     have := (s3 (fun hk => by omega) hj).1
     rw [hd] at this; cases this
  ·split at hx
   ·cases hx
   ·rename_i hb
    cases hj : j.down with
    | true => rw [h.down hj b] at hx; cases hx
    | false =>
     obtain ⟨k1, k2⟩ := (s3 (fun hk => by omega) hj).2 b (h.has b x hx).1 (fun _ _ => hb)
     exact ⟨(h.has b x hx).1, k1 x (h.has b x hx).2.1, by rw [k2]; exact (h.has b x hx).2.2⟩
 by_cases h10 : a.kind = 10
 ·rw [updR_new h10]
  exact ⟨hi, s1, fun _ _ => rfl, fun b x hx => by cases hx⟩
 rw [updR_else hp h4 h10]
 refine ⟨hi, s1, fun hd b => ?_, fun b x hx => ?_⟩
 ·cases hj : j.down with
  | true => exact h.down hj b
  | false =>
   have := (s3 (fun hk => absurd hk h10) hj).1
   rw [hd] at this; cases this
 ·cases hj : j.down with
  | true => rw [h.down hj b] at hx; cases hx
  | false =>
   obtain ⟨k1, k2⟩ := (s3 (fun hk => absurd hk h10) hj).2 b (h.has b x hx).1 (fun hk => by omega)
   exact ⟨(h.has b x hx).1, k1 x (h.has b x hx).2.1, by rw [k2]; exact (h.has b x hx).2.2⟩
theorem do_read {j : Jn} {a : Aj} (hk : a.kind = 9) (ha : j.acts < 400) (hd : j.down = false) : doJ j a = ({ j with acts := j.acts + 1 }, readJ { j with acts := j.acts + 1 } a.b) := by
 unfold doJ
 rw [if_neg (by omega), if_neg (by omega), if_neg (by omega), if_neg (by omega), if_neg (by omega), if_neg (by rw [hd]; decide), if_neg (by omega), if_neg (by omega), if_pos hk]
theorem tr_read {j : Jn} {f : Int → Option ByteArray} {a : Aj} (h : TR j f) (hk : a.kind = 9) (hc : (doJ j a).2.code = 0) {s : ByteArray} (hf : f a.b = some s) : (doJ j a).2.text = s ∧ (doJ j a).2.n ≠ 0 := by
 have hd : j.down = false := by
  cases hj : j.down with
  | false => rfl
  | true => rw [h.down hj] at hf; cases hf
 have ha : j.acts < 400 := by
  rcases Int.lt_or_le j.acts 400 with h1 | h1
  ·exact h1
  ·rw [ended a h1] at hc
   exact absurd (show (11 : Int) = 0 from hc) (by decide)
 rw [do_read hk ha hd]
 obtain ⟨h1, h2, h3⟩ := h.has _ _ hf
 have e := readX_read (j := { j with acts := j.acts + 1 }) (b := a.b) (s := s) h.inv.done_good h1 h2
 rw [e]
 exact ⟨rfl, h3⟩
theorem tr_new : TR newJ (fun _ => none) := ⟨inv_new, vi_zero (q := 1) (p := 0) rfl rfl rfl, fun _ _ => rfl, fun b x h => by cases h⟩
theorem TR.acts {j : Jn} {f : Int → Option ByteArray} (h : TR j f) (n : Int) : TR { j with acts := n } f :=
 ⟨h.inv.acts n, vi_same h.vi rfl rfl rfl rfl, h.down, h.has⟩
def rdA (b : Int) : Aj := ⟨9, 0, b, 0, ⟨#[]⟩⟩
theorem tr_final {j : Jn} {f : Int → Option ByteArray} (h : TR j f) (hd : j.down = false) {n : Nat} (hn : n < 400) {b : Int} (hb : isBlk b = true) : ∃ r : Int, ∃ t : ByteArray, doJ { j with acts := (n : Int) } (rdA b) = ({ j with acts := ((n + 1 : Nat) : Int) }, ⟨0, r, t⟩) ∧ ∀ s, f b = some s → t = s ∧ r ≠ 0 := by
 have e1 : doJ { j with acts := (n : Int) } (rdA b) = ({ j with acts := ((n + 1 : Nat) : Int) }, readJ { j with acts := (n : Int) + 1 } b) := do_read (j := { j with acts := (n : Int) }) (a := rdA b) rfl (show (n : Int) < 400 by omega) hd
 refine ⟨j.roles b, (firstC j b).getD (readD j.disk (25 + b)), ?_, fun s hs => ?_⟩
 ·rw [e1]
  unfold readJ
  rw [if_pos hb]
  rfl
 ·obtain ⟨h1, h2, h3⟩ := h.has _ _ hs
  have e := readX_read (j := j) (b := b) (s := s) h.inv.done_good h1 h2
  unfold readJ at e
  rw [if_pos hb] at e
  exact ⟨congrArg Rep.text e, h3⟩
theorem isBlk_nat {n : Nat} (h : n < 12) : isBlk (n : Int) = true := by unfold isBlk; simp; omega
theorem St.gsA {S : List Nat} {w0 w : World} {a b : Nat} {ca cb : List Value} {ta tb : TypeId} {L : List Ent} {R : List Rd} (_ : St S w0 w (⟨a, ca, ta⟩ :: ⟨b, cb, tb⟩ :: L) R) : ∃ x1 x2, x1 = a ∧ x2 = b := ⟨_, _, rfl, rfl⟩
theorem acts_at_eq (l : List Aj) : ∀ k, k ≤ l.length → k ≤ 400 → (jAt l k).acts = k := by
 intro k
 induction k with
 | zero => intro _ _; rfl
 | succ k ih =>
  intro h1 h2
  have h := ih (by omega) (by omega)
  rw [jAt_succ (by omega), acts_do, if_neg (by omega), h]
  omega
theorem St.gsB {S : List Nat} {w0 w : World} {a : Nat} {ca : List Value} {ta : TypeId} {L : List Ent} {R : List Rd} (_ : St S w0 w (⟨a, ca, ta⟩ :: L) R) : ∃ x1, x1 = a := ⟨_, rfl⟩
theorem txtV_put (f : Int → Option ByteArray) (b : Int) (s : ByteArray) : (fun x => if x = b then some (Value.string s) else txtV f x) = txtV (fun x => if x = b then some s else f x) := by
 funext x; unfold txtV; dsimp only; by_cases h : x = b
 ·rw [if_pos h, if_pos h]; rfl
 ·rw [if_neg h, if_neg h]
theorem txtV_del (f : Int → Option ByteArray) (b : Int) : (fun x => if x = b then none else txtV f x) = txtV (fun x => if x = b then none else f x) := by
 funext x; unfold txtV; dsimp only; by_cases h : x = b
 ·rw [if_pos h, if_pos h]; rfl
 ·rw [if_neg h, if_neg h]
end Wb
namespace Go.Proofs.YtjhmfljlclajnaaGreatDoor
open Go.RowKit Wb
set_option maxRecDepth 100000
set_option maxHeartbeats 16000000
instance : OneT Tryz.prog 23 := ⟨⟨_, Tryz.underlying23, rfl⟩, by kernel_rfl⟩
instance : ZeroT Tryz.prog 23 [.map none] := ⟨by kernel_rfl⟩
structure RdS where
 f : Int → Option ByteArray
 g : Nat
def rdT (gT : Nat) (s : RdS) (Ms : List Ent) (Rs : List Rd) : Prop := Ms = [⟨gT, [.map (some s.g)], 23⟩] ∧ Rs = []
def rdP (l : List Aj) (k : Nat) (s : RdS) : Prop := TR (jAt l k) s.f
def rdW (s : RdS) (w : World) : Prop := IMap w s.g (txtV s.f)
def rdB (s : RdS) : List Nat := [s.g]
theorem Zrdf {A : Prop} (h : A := by
 go_ret
 exact ⟨rfl, fin.out _ _ _ _ _ ef.out im.out hgS.out hL2.out X⟩) : A := h
theorem rd_look (K : JK) {S : List Nat} {w0 : World} {R : List Rd} (l : List Aj) (hok : ∀ a ∈ l, a.text.size ≤ 9223372036854775807 ∧ a.n ≤ 9223372036854775807) (gT : Nat) : LookW S w0 R l 5 #[.pointer (some ⟨gT, 0, none⟩)] (rdT gT) (rdP l) rdW rdB := by
 intro k hk h150 s hP L gj w M Rj Ms Rs F hT hW hA X
 obtain ⟨f, gm⟩ := s
 obtain ⟨rfl, rfl⟩ := hT
 have hP2 := tr_step l[k] hP
 have hRd := fun (hk9 : l[k].kind = 9) (hc : (doJ (jAt l k) l[k]).2.code = 0) (s : ByteArray) (hf : f l[k].b = some s) => tr_read (a := l[k]) (s := s) hP hk9 hc hf
 rw [← jAt_succ hk] at hP2
 have hA1 := hA gm (List.mem_singleton.2 rfl)
 replace X := X.perm (perm1J _ _ _).symm
 have im : IMap w gm (txtV f) := hW
 have hL1 : ∀ e ∈ (⟨gT, [.map (some gm)], 23⟩ :: (M ++ L)), e.g ≠ gm := fun e he => hA1.2 e ((perm1J _ _ _).mem_iff.1 he)
 have hgS := hA1.1
 clear hA hA1 hW
 obtain ⟨PP, hPP⟩ : ∃ PP : World → Prop, ∀ w', PP w' ↔ (∃ s' M' Rj' Ms' Rs', rdP l (k + 1) s' ∧ JF gj (jAt l (k + 1)) M' Rj' ∧ rdT gT s' Ms' Rs' ∧ rdW s' w' ∧ ApartB S w0 (rdB s') (M' ++ (Ms' ++ L)) ∧ St S w0 w' (M' ++ (Ms' ++ L)) (Rj' ++ (Rs' ++ R))) := ⟨_, fun _ => Iff.rfl⟩
 have fin : ∀ (w' : World) (a b : Ent) (f' : Int → Option ByteArray) (gm' : Nat), updR f l[k] (doJ (jAt l k) l[k]).2.code = f' → IMap w' gm' (txtV f') → (gm' ∈ S ∨ w0.heap.size ≤ gm') → (∀ e ∈ a :: b :: ⟨gT, [.map (some gm')], 23⟩ :: (M ++ L), e.g ≠ gm') → St S w0 w' (a :: b :: ⟨gT, [.map (some gm')], 23⟩ :: (M ++ L)) (Rj ++ ([] ++ R)) → PP w' := by
  intro w' a b f' gm' hf him hs hap X
  refine (hPP w').2 ⟨⟨f', gm'⟩, M, Rj, _, [], by rw [← hf]; exact hP2, F, ⟨rfl, rfl⟩, him, fun b hb => ?_, ?_⟩
  ·obtain rfl := List.mem_singleton.1 hb
   exact ⟨hs, fun e he => hap e (.tail _ (.tail _ ((perm1J _ _ _).mem_iff.2 he)))⟩
  ·exact (X.sub (.cons _ (.cons _ (List.Sublist.refl _)))).perm (perm1J _ _ _)
 have hmo : ∀ {g args}, Calls Tryz.prog g args w (fun e w' => e = .returned (.bool true) ∧ PP w') → Calls Tryz.prog g args w fun e w' => ∃ s' M' Rj' Ms' Rs', e = .returned (.bool true) ∧ rdP l (k + 1) s' ∧ JF gj (jAt l (k + 1)) M' Rj' ∧ rdT gT s' Ms' Rs' ∧ rdW s' w' ∧ ApartB S w0 (rdB s') (M' ++ (Ms' ++ L)) ∧ St S w0 w' (M' ++ (Ms' ++ L)) (Rj' ++ (Rs' ++ R)) := fun h => h.mono fun e w' ⟨he, hp⟩ => by
  obtain ⟨s', M', Rj', Ms', Rs', h1, h2, h3, h4, h5, h6⟩ := (hPP w').1 hp
  exact ⟨s', M', Rj', Ms', Rs', he, h1, h2, h3, h4, h5, h6⟩
 refine hmo ?_
 clear hmo hPP
 have htx : l[k].text.size ≤ 9223372036854775807 := (hok _ (List.getElem_mem hk)).1
 have hFi := fun w => K.fit l[k].text w htx
 show Calls Tryz.prog _ #[.pointer (some ⟨gj, 0, none⟩), .agg #[.int .i64 l[k].kind, .int .i64 l[k].h, .int .i64 l[k].b, .int .i64 l[k].n, .string l[k].text], .agg #[.int .i64 _, .int .i64 _, .string _], .pointer (some ⟨gT, 0, none⟩)] w _
 clear hP hP2 F htx
 have hfb := fun (hp : l[k].kind = 2 ∨ l[k].kind = 3) => updR_put (f := f) (a := l[k]) hp
 have hfd := fun (hp : l[k].kind = 4) => updR_del (f := f) (a := l[k]) hp
 have hfn := fun (hp : l[k].kind = 10) => updR_new (f := f) (a := l[k]) hp
 have hfe := fun (h1 : ¬ (l[k].kind = 2 ∨ l[k].kind = 3)) (h2 : l[k].kind ≠ 4) (h3 : l[k].kind ≠ 10) => updR_else (f := f) (a := l[k]) h1 h2 h3
 have hfx := fun (c : Int) (hc : c ≠ 0) => updR_bad (f := f) (a := l[k]) hc
 generalize updR f l[k] = UP at *
 generalize (doJ (jAt l k) l[k]).2.code = rc, (doJ (jAt l k) l[k]).2.n = rn, (doJ (jAt l k) l[k]).2.text = rt at *
 generalize l[k].kind = kd, l[k].b = bb, l[k].text = tx at *
 have hup := fun (w : World) f (im : IMap w gm f) k v => im.update (P := Tryz.prog) Tryz.underlying23 Tryz.underlying3 k v
 have hlk := fun (w : World) f (im : IMap w gm f) k => (im.lookup (P := Tryz.prog) Tryz.underlying23 Tryz.underlying3 (e := 9) (z := .string ⟨#[]⟩) (by kernel_rfl) k).2
 have hdl := fun (w : World) f (im : IMap w gm f) k => im.delete (P := Tryz.prog) (ty := 0) Tryz.underlying23 Tryz.underlying3 k
 replace fin := hid fin; replace hFi := hid hFi; replace hfb := hid hfb; replace hfd := hid hfd; replace hfn := hid hfn; replace hfe := hid hfe; replace hfx := hid hfx; replace hup := hid hup; replace hlk := hid hlk; replace hdl := hid hdl; replace hRd := hid hRd; replace im := hid im; replace hL1 := hid hL1; replace hgS := hid hgS
 have X0 := X
 have ilt := hid im.out.lt
 replace X := X.root
 go_enter Tryz.func5, Tryz.ntmps5
 go_upto_region 1 with (first
  | (refine Zbx ?_; clear X; intro g w X)
  | (refine ZyL ?_) | (refine ZyS ?_; clear X; intro w X) | (refine ZyA ?_; clear X; intro g w X))
 replace im := hid (im.out.same (X.frame ilt.out hL1.out))
 obtain ⟨g1, g2, rfl, rfl⟩ := X.gsA
 have X9 : St S w0 w (⟨g1, [.int .i64 rc, .int .i64 rn, .string rt], 31⟩ :: ⟨g2, [.int .i64 kd, .int .i64 l[k].h, .int .i64 bb, .int .i64 l[k].n, .string tx], 28⟩ :: ⟨gT, [.map (some gm)], 23⟩ :: (M ++ L)) (Rj ++ ([] ++ R)) := X0.back X
 have hL2 : ∀ e ∈ (⟨g1, [.int .i64 rc, .int .i64 rn, .string rt], 31⟩ :: ⟨g2, [.int .i64 kd, .int .i64 l[k].h, .int .i64 bb, .int .i64 l[k].n, .string tx], 28⟩ :: ⟨gT, [.map (some gm)], 23⟩ :: (M ++ L)), e.g ≠ gm := X.apartB ilt.out hL1.out
 clear X0 hL1 ilt X
 have X := X9
 clear X9
 replace hL2 := hid hL2
 by_cases hrc : rc = 0
 rotate_left
 ·have hne : (rc != 0) = true := by simpa using hrc
  have ef := hid (hfx.out rc hrc)
  replace hrc := hid hrc
  go_wp2_with (first
   | go_skip
   | (refine ZyL ?_) | (refine ZyS ?_; clear X; intro w X) | (refine ZyA ?_; clear X; intro g w X))
  exact Zrdf
 subst hrc
 by_cases hp : kd = 2 ∨ kd = 3
 ·have ef := hid (hfb.out hp)
  rcases hp with rfl | rfl
  all_goals
   go_upto_region 6 with (first
    | (refine ZyL ?_) | (refine ZyS ?_; clear X; intro w X) | (refine ZyA ?_; clear X; intro g w X))
   (refine q_startS 3 [6] [5, 6] [0, 2, 4] [0, 1, 2, 3, 4, 5, 6] X ?_; clear X; intro hQ X hL; simp only [zF, zG] at hL; simp only [zF, zG])
   replace im := hid im.out.drew
   (refine Zl ?_)
   (refine Zf ?_)
   (refine Zl ?_)
   (refine Zf ?_)
   (refine Zl ?_)
   (refine q_callS 6 Tryz.func6 (hFi.out _) ?_; rintro e w1 ⟨rfl, hb1⟩; replace im := hid (im.out.step hb1); replace X := X.call hb1; clear hb1; refine Zce ?_; clear hL; intro hL)
   obtain ⟨w5, hr5, im5, ht5⟩ := hup.out _ _ im.out bb (.string (fit tx))
   refine q_upd rfl rfl Zev Zev Zev rfl rfl rfl hr5 ?_
   (simp only [Act.put, zA, zB, zC, zD, zE, zF, zG, Nat.reduceAdd])
   refine q_nil ?_
   have X9 := X.turned im.out ht5 hgS.out hL2.out
   rw [txtV_put] at im5
   clear X im
   have X := X9
   clear X9
   have im := hid im5
   clear im5
   go_wp2
   exact Zrdf
 have f2 : (kd == 2) = false := beq_eq_false_iff_ne.2 fun h => hp (.inl h)
 have f3 : (kd == 3) = false := beq_eq_false_iff_ne.2 fun h => hp (.inr h)
 by_cases h4 : kd = 4
 ·have ef := hid (hfd.out h4)
  subst h4
  replace hp := hid hp
  go_upto_region 8 with (first
   | (refine ZyL ?_) | (refine ZyS ?_; clear X; intro w X) | (refine ZyA ?_; clear X; intro g w X))
  obtain ⟨w5, hr5, im5, ht5⟩ := hdl.out _ _ im.out bb
  go_upto_region 15 with (first
   | (refine ZyL ?_) | (refine ZyS ?_; clear X; intro w X) | (refine ZyA ?_; clear X; intro g w X))
  have X9 := X.turned im.out ht5 hgS.out hL2.out
  rw [txtV_del] at im5
  clear X im
  have X := X9
  clear X9
  have im := hid im5
  clear im5
  go_wp2
  exact Zrdf
 have f4 : (kd == 4) = false := beq_eq_false_iff_ne.2 h4
 by_cases h10 : kd = 10
 ·have ef := hid (hfn.out h10)
  subst h10
  replace hp := hid hp
  replace h4 := hid h4
  go_upto_region 10 with (first
   | (refine ZyL ?_) | (refine ZyS ?_; clear X; intro w X) | (refine ZyA ?_; clear X; intro g w X))
  clear im hgS hL2
  go_upto_region 15 with (first
   | (refine m_make (by kernel_rfl) rfl X ?_; intro gN w X2 imN hapN hgN; (simp only [Act.put, zA, zB, zC, zD, zE, zF, zG, Nat.reduceAdd]); have X0 := X2; replace X := X2.root; clear X2)
   | (refine ZyL ?_) | (refine ZyS ?_; clear X; intro w X) | (refine ZyA ?_; clear X; intro g w X))
  have ilt := imN.lt
  have im := hid (imN.same (X.frame ilt hapN))
  have hL2 := hid (X.apartB ilt hapN)
  have hgS : Hid (gN ∈ S ∨ w0.heap.size ≤ gN) := hid (.inr hgN)
  replace X := X0.back X
  clear X0 imN hapN hgN ilt
  go_wp2
  exact Zrdf
 have f10 : (kd == 10) = false := beq_eq_false_iff_ne.2 h10
 have ef := hid (hfe.out hp h4 h10)
 replace hp := hid hp; replace h4 := hid h4; replace h10 := hid h10
 by_cases h9 : kd = 9
 ·subst h9
  have h1 := hRd.out rfl rfl
  go_upto_region 12 with (first
   | (refine ZyL ?_) | (refine ZyS ?_; clear X; intro w X) | (refine ZyA ?_; clear X; intro g w X))
  have hk9 := hlk.out _ _ im.out bb
  unfold txtV at hk9
  cases hf : f bb with
  | none =>
   rw [hf] at hk9
   simp only [Option.map_none, Option.getD_none, Option.isSome_none] at hk9
   clear h1
   go_wp2_with (first
    | go_skip
    | (refine ZyL ?_) | (refine ZyS ?_; clear X; intro w X) | (refine ZyA ?_; clear X; intro g w X))
   exact Zrdf
  | some x =>
   obtain ⟨rfl, _⟩ := h1 x hf
   rw [hf] at hk9
   simp only [Option.map_some, Option.getD_some, Option.isSome_some] at hk9
   have tx1 : (rt.toList == rt.toList) = true := by simp
   clear h1
   replace hf := hid hf
   go_wp2_with (first
    | go_skip
    | (refine ZyL ?_) | (refine ZyS ?_; clear X; intro w X) | (refine ZyA ?_; clear X; intro g w X))
   exact Zrdf
 ·have f9 : (kd == 9) = false := beq_eq_false_iff_ne.2 h9
  replace h9 := hid h9
  go_wp2_with (first
   | go_skip
   | (refine ZyL ?_) | (refine ZyS ?_; clear X; intro w X) | (refine ZyA ?_; clear X; intro g w X))
  exact Zrdf
theorem law_TopReads (K : JK) (l : List Aj) (hok : ∀ a ∈ l, a.text.size ≤ 9223372036854775807 ∧ a.n ≤ 9223372036854775807) {al : Option Addr} {cl : Nat} (w0 : World) (hl : RL ajC w0 (.slice al l.length cl) l) (hF : Sl w0 (flR 0).v 1 (flR 0).cs) :
    Calls Tryz.prog 3 #[.slice al l.length cl] w0 fun e w' => e = .returned (.bool true) ∧ Below w0.heap.size w0 w' := by
 have X : St [] w0 w0 [] [Rd.of ajC (.slice al l.length cl) l, flR 0] := ((St.start [] w0).addR0 hF).addR0 hl
 have hWs : ∀ (s : RdS) (w w' : World), rdW s w → (∀ b ∈ rdB s, w'.heap[b]? = w.heap[b]?) → rdW s w' := fun s w w' h hb => IMap.same h (hb _ (List.mem_singleton.2 rfl))
 have hWl : ∀ (s : RdS) (w : World), rdW s w → ∀ b ∈ rdB s, b < w.heap.size := fun s w h b hb => by rw [List.mem_singleton.1 hb]; exact IMap.lt h
 have hPl := fun (w1 : World) (gT gN : Nat) (im : IMap w1 gN (fun _ => none)) (hgN : w0.heap.size ≤ gN) (hap : ∀ e ∈ [(⟨gT, [.map (some gN)], 23⟩ : Ent)], e.g ≠ gN) (X : St [] w0 w1 [⟨gT, [.map (some gN)], 23⟩] [Rd.of ajC (.slice al l.length cl) l, flR 0]) =>
  jr_playW (L := []) K l hok 5 #[.pointer (some ⟨gT, 0, none⟩)] (rdT gT) (rdP l) rdW rdB hWs hWl ⟨fun _ => none, gN⟩ [⟨gT, [.map (some gN)], 23⟩] [] ⟨rfl, rfl⟩ tr_new (im.congr fun _ => rfl) (fun b hb => by rw [List.mem_singleton.1 hb]; exact ⟨.inr hgN, hap⟩) X (.tail _ (.head _)) (.head _) ⟨_, _, Tryz.func5, by kernel_rfl, rfl⟩ (rd_look K l hok gT)
 have hac := acts_at_eq l (min l.length 150) (Nat.min_le_left _ _) (by omega)
 have hJe : jAt l (min l.length 150) = { jAt l (min l.length 150) with acts := ((min l.length 150 + 0 : Nat) : Int) } := by rw [Nat.add_zero, ← hac]
 have hN : min l.length 150 ≤ 150 := Nat.min_le_right _ _
 have hPs : ∀ s, rdP l (min l.length 150) s → TR (jAt l (min l.length 150)) s.f := fun s h => h
 clear hac hWs hWl
 generalize rdP l (min l.length 150) = PP at *
 generalize jAt l (min l.length 150) = J at *
 generalize min l.length 150 = N at *
 replace hPl := hid hPl; replace hJe := hid hJe; replace hN := hid hN; replace hPs := hid hPs
 go_enter Tryz.func3, Tryz.ntmps3
 go_upto_region 2 with (first
  | (refine m_make (by kernel_rfl) rfl X ?_; intro gN w X2 imN hapN hgN; (simp only [Act.put, zA, zB, zC, zD, zE, zF, zG, Nat.reduceAdd]); have X0 := X2; replace X := X2.root; clear X2)
  | (refine ZyL ?_) | (refine ZyS ?_; clear X; intro w X) | (refine ZyA ?_; clear X; intro g w X))
 have ilt := imN.lt
 have im := imN.same (X.frame ilt hapN)
 have hap := X.apartB ilt hapN
 replace X := X0.back X
 have hP := hid (hPl.out _ _ _ im hgN hap X)
 clear hPl ilt X0 imN hapN im hgN hap
 go_upto_region 3 with (first
  | (refine ZyL ?_) | (refine ZyS ?_; clear X; intro w X) | (refine ZyA ?_; clear X; intro g w X)
  | (go_at_call 4; go_loud ((with_reducible refine (hP.out).mono ?_); rintro e w1 ⟨gj, M, Rj, s, Ms, Rs, rfl, F, ⟨rfl, rfl⟩, hP1, hW1, hA1, X2⟩; replace X := X2; clear X2)))
 obtain ⟨wa, rfl⟩ : ∃ wa, wa = w1 := ⟨_, rfl⟩
 obtain ⟨f, gm⟩ := s
 have hTR := hid (hPs.out _ hP1)
 have hap := (hA1 gm (List.mem_singleton.2 rfl)).2
 replace X := X.perm (perm1J _ _ _).symm
 obtain ⟨gT, rfl⟩ := X.gsB
 obtain ⟨RR, hRR⟩ : ∃ RR, [Rd.of ajC (.slice al l.length cl) l, flR 0] = RR := ⟨_, rfl⟩
 have hFm : flR 0 ∈ RR := by rw [← hRR]; exact .tail _ (.head _)
 rw [hRR] at X
 clear hRR
 have X9 : St [] w0 wa (⟨gT, [.map (some gm)], 23⟩ :: (M ++ [])) (Rj ++ RR) := X
 have hap9 : ∀ e ∈ ⟨gT, [.map (some gm)], 23⟩ :: (M ++ []), e.g ≠ gm := fun e he => hap e ((perm1J _ _ _).mem_iff.1 he)
 have im0 : IMap wa gm (txtV f) := hW1
 have hfr := fun (w2 : World) (L2 : List Ent) (R2 : List Rd) (Y : St ((⟨gT, [.map (some gm)], 23⟩ :: (M ++ [])).map Ent.g) wa w2 L2 R2) => im0.same (Y.frame im0.lt hap9)
 have hbk := fun (w2 : World) (L2 : List Ent) (R2 : List Rd) (Y : St ((⟨gT, [.map (some gm)], 23⟩ :: (M ++ [])).map Ent.g) wa w2 L2 R2) => (X9.back Y).below
 clear X
 have X := X9.root
 clear X9 hap hap9 im0 hA1 hW1 hP1 hP hPs
 generalize hSS : List.map Ent.g (⟨gT, [.map (some gm)], 23⟩ :: (M ++ [])) = SS at *
 clear hSS
 have hR := jr_Ring F (X.perm (perm1J _ _ _))
 unfold Ring.val at hR
 have hlk := fun (w : World) f (im : IMap w gm f) k => (im.lookup (P := Tryz.prog) Tryz.underlying23 Tryz.underlying3 (e := 9) (z := .string ⟨#[]⟩) (by kernel_rfl) k).2
 replace hfr := hid hfr; replace hbk := hid hbk; replace hlk := hid hlk; replace hFm := hid hFm
 by_cases hd : J.down = true
 ·rw [hd] at hR
  replace hR := hid hR
  replace hd := hid hd
  clear hTR hJe
  go_wp2_with (first
   | (refine ZyL ?_) | (refine ZyS ?_; clear X; intro w X) | (refine ZyA ?_; clear X; intro g w X)
   | (go_at_call 7; go_loud ((with_reducible refine (hR.out).mono ?_); rintro e w1 ⟨rfl, X2⟩; replace X := X2.perm (perm1J _ _ _).symm; clear X2)))
  go_ret
  exact ⟨rfl, hbk.out _ _ _ X⟩
 have hd2 : J.down = false := by simpa using hd
 rw [hd2] at hR
 generalize hrh : J.ring.head = rh, hru : J.ring.used = ru at hR
 clear hrh hru
 replace hR := hid hR
 replace hd2 := hid hd2
 clear hd
 go_upto_region 9 with (first
  | (refine ZyL ?_) | (refine ZyS ?_; clear X; intro w X) | (refine ZyA ?_; clear X; intro g w X)
  | (go_at_call 7; go_loud ((with_reducible refine (hR.out).mono ?_); rintro e w1 ⟨rfl, X2⟩; replace X := X2.perm (perm1J _ _ _).symm; clear X2)))
 rw [hJe.out] at F
 clear hJe hR
 obtain ⟨gr, rfl⟩ := X.gsB
 go_wp2
 go_loopw [9] (fun i wr => ∃ (n : Nat) (M : List Ent) (Rj : List Rd), n ≤ 12 ∧ i = .int .i64 (n : Int) ∧ JF gj { J with acts := ((N + n : Nat) : Int) } M Rj ∧ St SS wa wr (⟨gr, [.int .i64 rh, .int .i64 ru], 36⟩ :: ⟨gT, [.map (some gm)], 23⟩ :: (M ++ [])) (Rj ++ RR)) (fun i _ => 12 - (intOf i).toNat)
 case atStart => exact ⟨0, M, Rj, Nat.zero_le _, rfl, F, X⟩
 case round =>
  clear X F
  obtain ⟨n, M, Rj, hn, rfl, F, X⟩ := hrel
  by_cases hlt : n < 12
  ·have hNn : N + n < 400 := by have := hN.out; omega
   obtain ⟨r, t, e1, e2⟩ := tr_final hTR.out hd2.out hNn (isBlk_nat hlt)
   have hD := jr_DoA K F (X.perm (perm2J _ _ _ _)) hFm.out (rdA n) (Nat.zero_le _) (show (0 : Int) ≤ 9223372036854775807 by decide) (show (0 : Int) ≤ ((N + n : Nat) : Int) by omega) [.int .i64 9, .int .i64 0, .int .i64 (n : Int), .int .i64 0, .string ⟨#[]⟩] rfl (c := 0) (n := r) (t := t) (by rw [e1])
   rw [e1] at hD
   have hwn : IntKind.i64.wrap ((n : Int) + 1) = (n : Int) + 1 := IntWalk.i64_in _ (by omega)
   replace hD := hid hD; replace e2 := hid e2; replace F := hid F
   clear e1
   go_upto_region 12 with (first
    | (refine ZyL ?_) | (refine ZyS ?_; clear X; intro w X) | (refine ZyA ?_; clear X; intro g w X)
    | (go_at_call 8; go_loud ((with_reducible refine (hD.out).mono ?_); rintro e w1 ⟨M3, R3, rfl, F3, X2⟩; replace X := X2.perm (perm2J _ _ _ _).symm; clear X2)))
   have hk9 := hlk.out _ _ (hfr.out _ _ _ X) (n : Int)
   unfold txtV at hk9
   clear hD F
   cases hf : f n with
   | none =>
    rw [hf] at hk9
    simp only [Option.map_none, Option.getD_none, Option.isSome_none] at hk9
    replace hf := hid hf
    go_upto_region 13 with (first
     | (refine ZyL ?_) | (refine ZyS ?_; clear X; intro w X) | (refine ZyA ?_; clear X; intro g w X))
    go_wp2_with (first
     | go_skip)
    go_roundw
    case rel => exact ⟨n + 1, M3, R3, by omega, by go_num, F3, X.sub (.cons _ (List.Sublist.refl _))⟩
    case measure => simp [intOf]; omega
   | some x =>
    obtain ⟨rfl, hr0⟩ := e2.out x hf
    rw [hf] at hk9
    simp only [Option.map_some, Option.getD_some, Option.isSome_some] at hk9
    have tx1 : (t.toList == t.toList) = true := by simp
    have fr0 : (r == 0) = false := beq_eq_false_iff_ne.2 hr0
    replace hf := hid hf
    replace hr0 := hid hr0
    go_wp2_with (first
     | go_skip
     | (refine ZyL ?_) | (refine ZyS ?_; clear X; intro w X) | (refine ZyA ?_; clear X; intro g w X))
    go_roundw
    case rel => exact ⟨n + 1, M3, R3, by omega, by go_num, F3, X.sub (.cons _ (List.Sublist.refl _))⟩
    case measure => simp [intOf]; omega
  ·go_wp2_with (first
     | (refine ZyL ?_) | (refine ZyS ?_; clear X; intro w X) | (refine ZyA ?_; clear X; intro g w X))
   go_ret
   exact ⟨rfl, hbk.out _ _ _ X⟩
end Go.Proofs.YtjhmfljlclajnaaGreatDoor
namespace Go.Proofs.YtjhmfljlclajnaaGreatDoor
open Go.RowKit Wb
set_option maxRecDepth 100000
set_option maxHeartbeats 1000000
theorem disk_Put_good (d : Dsk) (n : Int) (t : ByteArray) (v : Value) (w : World) (hd : RDisk w v d) (hg : goodD d = true) (ha : isAt n = true) (h32 : t.size = 32) (h200 : ¬ 200 ≤ d.writes.length) :
    Calls Tryz.prog 22 #[v, .int .i64 n, .string t] w fun e w' => ∃ v', e = .returned (.tuple #[v', .int .i64 0]) ∧ RDisk w' v' ⟨d.safe, d.writes ++ [⟨n, t⟩]⟩ ∧ NewD w.heap.size w' v v' d ⟨d.safe, d.writes ++ [⟨n, t⟩]⟩ ∧ Below w.heap.size w w' := by
 have hG := fun w (hh : RDisk w v d) => disk_Good d v w hh
 have hA := fun w => disk_at n w
 rw [hg] at hG
 rw [ha] at hA
 have e1 : ((t.size : Int) != 32) = false := by rw [h32]; rfl
 have hd2 := hd
 obtain ⟨vs, vw, rfl, hs, hw, n1, n2⟩ := hd
 obtain ⟨a, cap, rfl, ca1, ca2⟩ := hs.form
 obtain ⟨b, bcap, rfl, cb1, cb2⟩ := hw.form
 replace hd2 := hid hd2
 clear hg ha h32
 obtain ⟨safe, writes⟩ := d
 dsimp only at *
 have hC := fun v w (hh : RL wrC w v writes) => clone_Writes writes v w hh n2
 replace hG := hid hG
 replace hA := hid hA
 replace hC := hid hC
 replace hs := hid hs
 replace hw := hid hw
 go_enter Tryz.func22, Tryz.ntmps22
 go_wp2_with (first
  | (go_at_call 49; refine (hG.out _ (hd2.out.below (by exact Zlo))).mono ?_; rintro e w1 ⟨rfl, hb1⟩; obtain ⟨hbc, hbf⟩ := bcell hb1; have hbz := hb1.size; try simp only [World.size_alloc, World.size_setCell, World.size_drew] at hbz; have hz0 := Nat.lt_of_lt_of_le (n := w.heap.size) (by omega) hbz; have hz1 := Nat.lt_of_lt_of_le (n := w.heap.size + 1) (by omega) hbz)
  | (go_at_call 50; refine (hA.out _).mono ?_; rintro e w2 ⟨rfl, rfl⟩))
 have hnx : Below w.heap.size w w1 := by exact Zlo
 have k0 : Blk w1 w.heap.size #[.slice a safe.length cap, .slice b writes.length bcap] 47 := ((Blk.new w _ _).alloc _).step hb1
 have k1 : Blk w1 (w.heap.size + 1) #[.slice none 0 0, .slice none 0 0] 47 := (Blk.newAt (w := w.alloc _) (by simp)).step hb1
 have c0 := k0.cell 0
 have c1 := k0.cell 1
 simp only [Zga, Zgb, Zgc] at c0 c1
 have hw1 := hid (hw.out.below hnx)
 clear hb1 hbc hbf hw hd2
 go_region_held3 (fun w' => w'.cell? ⟨w.heap.size, 0, none⟩ = some (.slice a safe.length cap) ∧ w'.cell? ⟨w.heap.size, 1, none⟩ = some (.slice b writes.length bcap)) (first | exact ⟨by with_reducible assumption, by with_reducible assumption⟩ | go_keep) (first
  | (refine step_call 51 _ _ (by rfl) (by rfl) #[.slice b writes.length bcap] (by rfl) ⟨_, _, Tryz.func51, by kernel_rfl, rfl⟩ (hC.out _ _ (hw1.out.below (by exact Zlo))) ?_; rintro e w3 ⟨v3, rfl, hown3, hb3⟩; obtain ⟨a3, cap3, rfl⟩ := hown3.form; have hz3 : w1.heap.size ≤ w3.heap.size := (by have h := hb3.size; simp at h; omega); have k3 : Blk w3 (w.heap.size + 1) #[.slice none 0 0, .slice none 0 0] 47 := (by with_reducible (first | exact k1.drew.step hb3 | exact (k1.alloc _).drew.step hb3)); replace hown3 := hown3.mono (base' := w1.heap.size) (by simp); have hb13 : Below w.heap.size w w3 := (by with_reducible (first | exact hnx.drew.trans (hb3.mono (by simp; omega)) | exact (allocB hnx (by omega) _).drew.trans (hb3.mono (by simp; omega)))); have k03 : Blk w3 w.heap.size #[.slice a safe.length cap, .slice b writes.length bcap] 47 := (by with_reducible (first | exact k0.drew.step hb3 | exact (k0.alloc _).drew.step hb3)); have p0 := k03.cell 0; have p1 := k03.cell 1; simp only [Zga, Zgb, Zgc] at p0 p1; refine ⟨_, rfl, ?_⟩)
  | go_loud (refine step_app (by rfl) _ _ 45 (by rfl) w1.heap.size _ 2 24 wrC_flat elemWr (hown3.alloc _) (by rfl) [⟨n, t⟩] (RL.newN (f := wrC) _ _ _ [⟨n, t⟩] (by show 1 ≤ maxLen; decide)) (by rfl) (by (try simp); omega) (by (try simp); unfold maxLen; omega) (by (try simp); omega) ?_; intro v4 w4 hown4 hb4 _; obtain ⟨a4, cap4, rfl⟩ := hown4.form; have k4 := (k3.alloc _).below hb4 (by omega); have hb14 := (allocB hb13 (by omega) _).trans (hb4.mono (by omega)); have k04 := (k03.alloc _).below hb4 (by omega); have p2 := k04.cell 0; have p3 := k04.cell 1; simp only [Zga, Zgb, Zgc] at p2 p3; have f0 := k4.cell 0; have f1 := k4.cell 1; simp only [Zga, Zgb, Zgc] at f0 f1; have f2 := k4.free 0; have f3 := k4.free 1)
  | go_loud (refine step_app (by rfl) _ _ 45 (by rfl) w1.heap.size _ 2 24 wrC_flat elemWr hown3 (by rfl) [⟨n, t⟩] (RL.ofBlk (f := wrC) (g := w1.heap.size) [⟨n, t⟩] ((Blk.newAt (w := w1) (by simp)).drew.step hb3) (by show 1 ≤ maxLen; decide)) (by rfl) (by (try simp); omega) (by (try simp); unfold maxLen; omega) (by (try simp); omega) ?_; intro v4 w4 hown4 hb4 _; obtain ⟨a4, cap4, rfl⟩ := hown4.form; have k4 := k3.below hb4 (by omega); have hb14 := hb13.trans (hb4.mono (by omega)); have k04 := k03.below hb4 (by omega); have p2 := k04.cell 0; have p3 := k04.cell 1; simp only [Zga, Zgb, Zgc] at p2 p3; have f0 := k4.cell 0; have f1 := k4.cell 1; simp only [Zga, Zgb, Zgc] at f0 f1; have f2 := k4.free 0; have f3 := k4.free 1))
 all_goals
  go_wp2
  have e4 : (writes ++ [(⟨n, t⟩ : Wr)]).length = writes.length + 1 := by simp
  rw [e4] at hown4
  have l1 := k1.lt
  have hF : Below w.heap.size w ((w4.setCell ⟨w.heap.size + 1, 0, none⟩ (.slice a safe.length cap)).setCell ⟨w.heap.size + 1, 1, none⟩ (.slice a4 (writes.length + 1) cap4)) := (hb14.setCell (by simp) _).setCell (by simp) _
  refine bodyPost_ret (v := .tuple #[.agg #[.slice a safe.length cap, .slice a4 (writes.length + 1) cap4], .int .i64 0]) (by simp [results, Tryz.results22, go_sem, f0, f1]) rfl ⟨_, rfl, ⟨_, _, rfl, hs.out.below hF, ?_, n1, by simp; omega⟩, ⟨_, _, _, _, rfl, rfl, .same _ _ _ _ _, ?_⟩, hF⟩
  ·exact ((hown4.setCell (by simp; omega) _).setCell (by simp; omega) _).reads
  ·exact ((hown4.setCell (by simp; omega) _).setCell (by simp; omega) _).slot (by omega)
theorem disk_PutN (d : Dsk) (n : Int) (t : ByteArray) (v : Value) (w : World) (hd : RDisk w v d) :
    Calls Tryz.prog 22 #[v, .int .i64 n, .string t] w fun e w' => ∃ v', e = .returned (.tuple #[v', .int .i64 (putE d n t)]) ∧ RDisk w' v' (putD d n t) ∧ NewD w.heap.size w' v v' d (putD d n t) ∧ Below w.heap.size w w' := by
 have hG := fun w (hh : RDisk w v d) => disk_Good d v w hh
 have hA := fun w => disk_at n w
 have hd2 := hd
 obtain ⟨vs, vw, rfl, hs, hw, n1, n2⟩ := hd
 obtain ⟨a, cap, rfl, _⟩ := hs.form
 obtain ⟨b, bcap, rfl, _⟩ := hw.form
 replace hd2 := hid hd2
 by_cases hg : goodD d = true
 ·rw [hg] at hG
  by_cases ha : isAt n = true
  ·have hg0 := hg
   have ha0 := ha
   rw [ha] at hA
   have hgood : goodD d = true ∧ isAt n = true := ⟨hg, ha⟩
   by_cases h32 : t.size = 32
   ·have e1 : ((t.size : Int) != 32) = false := by rw [h32]; rfl
    by_cases h200 : 200 ≤ d.writes.length
    ·have he : putE d n t = 11 := by unfold putE; rw [if_neg (not_not_intro hgood), if_neg (not_not_intro h32), if_pos h200]
     have hv : putD d n t = d := by unfold putD; rw [he, if_neg (by decide)]
     rw [hv, he]
     clear ha hg hv he hs hw hgood h32
     replace hG := hid hG
     replace hA := hid hA
     go_enter Tryz.func22, Tryz.ntmps22
     go_wp2_with (first
      | (go_at_call 49; refine (hG.out _ (hd2.out.below (by exact Zlo))).mono ?_; rintro e w1 ⟨rfl, hb1⟩; obtain ⟨hbc, hbf⟩ := bcell hb1; have hbz := hb1.size; try simp only [World.size_alloc, World.size_setCell, World.size_drew] at hbz; have hz0 := Nat.lt_of_lt_of_le (n := w.heap.size) (by omega) hbz; have hz1 := Nat.lt_of_lt_of_le (n := w.heap.size + 1) (by omega) hbz)
      | (go_at_call 50; refine (hA.out _).mono ?_; rintro e w2 ⟨rfl, rfl⟩))
     exact bodyPost_ret (v := .tuple #[.agg #[.slice a d.safe.length cap, .slice b d.writes.length bcap], .int .i64 11]) (by simp [results, Tryz.results22, go_sem, hbc]) rfl ⟨_, rfl, hd2.out.below (by exact Zlo), hd2.out.same _, by exact Zlo⟩
    ·have he : putE d n t = 0 := by unfold putE; rw [if_neg (not_not_intro hgood), if_neg (not_not_intro h32), if_neg h200]
     have hv : putD d n t = ⟨d.safe, d.writes ++ [⟨n, t⟩]⟩ := by unfold putD; rw [if_pos he]
     rw [hv, he]
     clear ha hg hv he hgood
     exact disk_Put_good d n t _ w hd2.out hg0 ha0 h32 h200
   ·have e1 : ((t.size : Int) != 32) = true := bne_iff_ne.2 (by omega)
    have he : putE d n t = 1 := by unfold putE; rw [if_neg (not_not_intro hgood), if_pos h32]
    have hv : putD d n t = d := by unfold putD; rw [he, if_neg (by decide)]
    rw [hv, he]
    clear ha hg hv he hs hw hgood h32
    replace hG := hid hG
    replace hA := hid hA
    go_enter Tryz.func22, Tryz.ntmps22
    go_wp2_with (first
     | (go_at_call 49; refine (hG.out _ (hd2.out.below (by exact Zlo))).mono ?_; rintro e w1 ⟨rfl, hb1⟩; obtain ⟨hbc, hbf⟩ := bcell hb1; have hbz := hb1.size; try simp only [World.size_alloc, World.size_setCell, World.size_drew] at hbz; have hz0 := Nat.lt_of_lt_of_le (n := w.heap.size) (by omega) hbz; have hz1 := Nat.lt_of_lt_of_le (n := w.heap.size + 1) (by omega) hbz)
     | (go_at_call 50; refine (hA.out _).mono ?_; rintro e w2 ⟨rfl, rfl⟩))
    exact bodyPost_ret (v := .tuple #[.agg #[.slice a d.safe.length cap, .slice b d.writes.length bcap], .int .i64 1]) (by simp [results, Tryz.results22, go_sem, hbc]) rfl ⟨_, rfl, hd2.out.below (by exact Zlo), hd2.out.same _, by exact Zlo⟩
  ·have he : putE d n t = 2 := by unfold putE; rw [if_pos (fun hh => ha hh.2)]
   have hv : putD d n t = d := by unfold putD; rw [he, if_neg (by decide)]
   rw [hv, he]
   rw [Bool.not_eq_true _ |>.mp ha] at hA
   clear ha hg hv he
   replace hG := hid hG
   replace hA := hid hA
   replace hs := hid hs
   replace hw := hid hw
   go_enter Tryz.func22, Tryz.ntmps22
   go_wp2_with (first
    | (go_at_call 49; refine (hG.out _ (hd2.out.below (by exact Zlo))).mono ?_; rintro e w1 ⟨rfl, hb1⟩; obtain ⟨hbc, hbf⟩ := bcell hb1; have hbz := hb1.size; try simp only [World.size_alloc, World.size_setCell, World.size_drew] at hbz; have hz0 := Nat.lt_of_lt_of_le (n := w.heap.size) (by omega) hbz; have hz1 := Nat.lt_of_lt_of_le (n := w.heap.size + 1) (by omega) hbz)
    | (go_at_call 50; refine (hA.out _).mono ?_; rintro e w2 ⟨rfl, rfl⟩))
   exact bodyPost_ret (v := .tuple #[.agg #[.slice a d.safe.length cap, .slice b d.writes.length bcap], .int .i64 2]) (by simp [results, Tryz.results22, go_sem, hbc]) rfl ⟨_, rfl, hd2.out.below (by exact Zlo), hd2.out.same _, by exact Zlo⟩
 ·have he : putE d n t = 2 := by unfold putE; rw [if_pos (fun hh => hg hh.1)]
  have hv : putD d n t = d := by unfold putD; rw [he, if_neg (by decide)]
  rw [hv, he]
  rw [Bool.not_eq_true _ |>.mp hg] at hG
  clear hg hv he hs hw
  replace hG := hid hG
  go_enter Tryz.func22, Tryz.ntmps22
  go_wp2_with (go_at_call 49; refine (hG.out _ (hd2.out.below (by exact Zlo))).mono ?_; rintro e w1 ⟨rfl, hb1⟩; obtain ⟨hbc, hbf⟩ := bcell hb1; have hbz := hb1.size; try simp only [World.size_alloc, World.size_setCell, World.size_drew] at hbz; have hz0 := Nat.lt_of_lt_of_le (n := w.heap.size) (by omega) hbz; have hz1 := Nat.lt_of_lt_of_le (n := w.heap.size + 1) (by omega) hbz)
  exact bodyPost_ret (v := .tuple #[.agg #[.slice a d.safe.length cap, .slice b d.writes.length bcap], .int .i64 2]) (by simp [results, Tryz.results22, go_sem, hbc]) rfl ⟨_, rfl, hd2.out.below (by exact Zlo), hd2.out.same _, by exact Zlo⟩
theorem disk_FlushN (d : Dsk) (v : Value) (w : World) (hd : RDisk w v d) :
    Calls Tryz.prog 23 #[v] w fun e w' => ∃ v', e = .returned (.tuple #[v', .int .i64 (flushE d)]) ∧ RDisk w' v' (flushD d) ∧ NewD w.heap.size w' v v' d (flushD d) ∧ Below w.heap.size w w' := by
 have hG := fun w (hh : RDisk w v d) => disk_Good d v w hh
 have hd2 := hd
 obtain ⟨vs, vw, rfl, hs, hw, n1, n2⟩ := hd
 obtain ⟨a, cap, rfl, ca1, ca2⟩ := hs.form
 obtain ⟨b, bcap, rfl, cb1, cb2⟩ := hw.form
 replace hd2 := hid hd2
 by_cases hg : goodD d = true
 ·have he : flushE d = 0 := by unfold flushE; rw [if_pos hg]
  have hv : flushD d = ⟨flushL d.safe d.writes, []⟩ := by unfold flushD; rw [if_pos hg]
  rw [hv, he]
  rw [hg] at hG
  obtain ⟨g1, g2, _, g3⟩ := (goodD_iff d).1 hg
  clear he hv hg
  obtain ⟨safe, writes⟩ := d
  dsimp only at *
  have hC := fun v w (hh : RL strC w v safe) => clone_Strings safe v w hh n1
  have hstep := fun (k : Nat) (hk : k < writes.length) => flushL_step safe writes hk
  have hlen := fun k => flushL_len safe (writes.take k)
  have hwr := fun (k : Nat) (hk : k < writes.length) => List.all_eq_true.1 g3 writes[k] (List.getElem_mem hk)
  replace hG := hid hG
  replace hC := hid hC
  replace hs := hid hs
  replace hw := hid hw
  replace hstep := hid hstep
  replace hlen := hid hlen
  replace hwr := hid hwr
  replace g1 := hid g1
  clear g3
  go_enter Tryz.func23, Tryz.ntmps23
  go_wp2_with (first
   | (go_at_call 49; refine (hG.out _ (hd2.out.below (by exact Zlo))).mono ?_; rintro e w1 ⟨rfl, hb1⟩; obtain ⟨hbc, hbf⟩ := bcell hb1; have hbz := hb1.size; try simp only [World.size_alloc, World.size_setCell, World.size_drew] at hbz; have hz0 := Nat.lt_of_lt_of_le (n := w.heap.size) (by omega) hbz; have hz1 := Nat.lt_of_lt_of_le (n := w.heap.size + 1) (by omega) hbz)
   | (go_at_call 52; go_loud (refine (hC.out _ _ (hs.out.below (by exact Zlo))).mono ?_; rintro e w3 ⟨v3, rfl, hown3, hb3⟩; obtain ⟨a3, cap3, rfl⟩ := hown3.form; have k0 : Blk w3 w.heap.size #[.slice a safe.length cap, .slice b writes.length bcap] 47 := (((Blk.new w _ _).alloc _).step hb1).step hb3; have k1 : Blk w3 (w.heap.size + 1) #[.slice none 0 0, .slice none 0 0] 47 := ((Blk.newAt (w := w.alloc _) (by simp)).step hb1).step hb3; have hnx3 : Below w.heap.size w w3 := (by exact Zlo); have lt1 := k1.lt; have lt0 := k0.lt; have c0 := k0.cell 0; have c1 := k0.cell 1; simp only [Zga, Zgb, Zgc] at c0 c1; have og := fun g (hg : (Value.slice a3 safe.length cap3).ownBlock = some g) => World.ownsRow.lt hown3 g hg; replace og := hid og; have lz := hb1.size; clear hb1 hb3 hbc hbf)))
  have hz1w : w.heap.size + 1 < w1.heap.size := by (try simp at lz); omega
  have o0 := hown3
  go_loopw [6, 18] (fun _ i wr => ∃ k : Nat, k ≤ writes.length ∧ i = .int .i64 k ∧ Wb.Own strC w1.heap.size 9 1 wr (.slice a3 safe.length cap3) (flushL safe (writes.take k)) ∧ Blk wr w.heap.size #[.slice a safe.length cap, .slice b writes.length bcap] 47 ∧ Blk wr (w.heap.size + 1) #[.slice none 0 0, .slice none 0 0] 47 ∧ Blk wr w3.heap.size #[.slice a3 safe.length cap3, .slice none 0 0] 47 ∧ Below w.heap.size w wr) (fun _ i _ => writes.length - (intOf i).toNat)
  case atStart => exact ⟨0, Nat.zero_le _, rfl, o0.alloc _, k0.alloc _, k1.alloc _, Blk.new _ _ _, allocB hnx3 (by omega) _⟩
  case round =>
   obtain ⟨k, hk, rfl, hown, k0, k1, k2, hnx⟩ := hrel
   have lt0 := k0.lt
   have lt1 := k1.lt
   have lt2 := k2.lt
   have c0 := k0.cell 0
   have c1 := k0.cell 1
   have c2 := k1.cell 0
   have c3 := k1.cell 1
   have c4 := k2.cell 0
   have c5 := k2.cell 1
   simp only [Zga, Zgb, Zgc] at c0 c1 c2 c3 c4 c5
   by_cases hlt : k < writes.length
   ·obtain ⟨b2, off, rfl, d0, d1⟩ := RL.at2 (fun x => .int .i64 x.at_) (fun x => .string x.text) (fun _ => rfl) (hw.out.below hnx) hlt
    have lt3 := World.block_lt_of_cell? _ _ d0
    dsimp only at lt3
    have hst := hstep.out k hlt
    have hwk := hwr.out k hlt
    have hl := hlen.out k
    obtain ⟨⟨p, t⟩, hx⟩ : ∃ x, writes[k] = x := ⟨_, rfl⟩
    rw [hx] at d0 d1 hst hwk
    obtain ⟨m, rfl⟩ : ∃ m : Nat, p = m := ⟨p.toNat, by simp only [wrOk, Bool.and_eq_true, isAt, decide_eq_true_eq] at hwk; omega⟩
    have hm : m < safe.length := by simp only [wrOk, Bool.and_eq_true, isAt, decide_eq_true_eq] at hwk; have := g1.out; omega
    dsimp only at d0 d1
    simp only [Int.toNat_natCast] at hst
    generalize flushL safe (writes.take k) = fl at *
    obtain ⟨g, cap4, hv, hgb, hgl, hgc, hset⟩ := hown.poke strC_flat (k := m) (by omega)
    simp only [Value.slice.injEq] at hv
    obtain ⟨rfl, _, rfl⟩ := hv
    obtain ⟨z0, z1⟩ := hgc 0 (by decide)
    replace hset := hset 0 t (.string t) (by decide) rfl
    rw [← hst, Nat.mul_one, Nat.add_zero] at hset
    simp only [Nat.mul_one, Nat.add_zero, strC, List.getElem?_cons_zero] at z0 z1
    replace hset := hid hset
    have hne := og.out g rfl
    have hm3 : m < fl.length := by omega
    obtain ⟨old, hold⟩ : ∃ y, fl[m] = y := ⟨_, rfl⟩
    rw [hold] at z1
    clear hold hwk hst hx hown hgc hl hm3
    have hm2 : (m : Int) < safe.length := by omega
    go_wp2
    go_roundw
    case rel => exact ⟨k + 1, by omega, by go_num, hset.out.alloc _, (k0.set_other _ _ (by simp; omega)).alloc _, (k1.set_other _ _ (by simp; omega)).alloc _, (k2.set_other _ _ (by simp; omega)).alloc _, allocB (hnx.setCell (by simp; omega) _) (by omega) _⟩
    case measure => simp [intOf]; omega
   ·rw [List.take_of_length_le (by omega)] at hown
    have f1 := k1.free 0
    have f2 := k1.free 1
    go_wp2
    have hF : Below w.heap.size w ((wr.setCell ⟨w.heap.size + 1, 0, none⟩ (.slice a3 safe.length cap3)).setCell ⟨w.heap.size + 1, 1, none⟩ (.slice none 0 0)) := (hnx.setCell (by simp) _).setCell (by simp) _
    have hfl := flushL_len safe writes
    obtain ⟨a9, cap9, hv9, _, _⟩ := hown.reads.form
    have ho := (hown.setCell (p := ⟨w.heap.size + 1, 0, none⟩) (by simp; omega) (.slice a3 safe.length cap3)).setCell (p := ⟨w.heap.size + 1, 1, none⟩) (by simp; omega) (.slice none 0 0)
    refine bodyPost_ret (v := .tuple #[.agg #[.slice a3 safe.length cap3, .slice none 0 0], .int .i64 0]) (by simp [results, Tryz.results23, go_sem, c2, c3]) rfl ⟨_, rfl, ⟨_, _, rfl, ho.reads, RL.nil _ _, by rw [hfl]; exact n1, by simp⟩, ⟨_, _, _, _, rfl, rfl, ho.slot (by omega), .nil⟩, hF⟩
 ·have he : flushE d = 2 := by unfold flushE; rw [if_neg hg]
  have hv : flushD d = d := by unfold flushD; rw [if_neg hg]
  rw [hv, he]
  rw [Bool.not_eq_true _ |>.mp hg] at hG
  clear hg hv he hs hw
  replace hG := hid hG
  go_enter Tryz.func23, Tryz.ntmps23
  go_wp2_with (go_at_call 49; refine (hG.out _ (hd2.out.below (by exact Zlo))).mono ?_; rintro e w1 ⟨rfl, hb1⟩; obtain ⟨hbc, hbf⟩ := bcell hb1; have hbz := hb1.size; try simp only [World.size_alloc, World.size_setCell, World.size_drew] at hbz; have hz0 := Nat.lt_of_lt_of_le (n := w.heap.size) (by omega) hbz; have hz1 := Nat.lt_of_lt_of_le (n := w.heap.size + 1) (by omega) hbz)
  exact bodyPost_ret (v := .tuple #[.agg #[.slice a d.safe.length cap, .slice b d.writes.length bcap], .int .i64 2]) (by simp [results, Tryz.results23, go_sem, hbc]) rfl ⟨_, rfl, hd2.out.below (by exact Zlo), hd2.out.same _, by exact Zlo⟩
theorem disk_New (w : World) :
    Calls Tryz.prog 20 #[] w fun e w' => ∃ vs, e = .returned (.agg #[vs, .slice none 0 0]) ∧ Wb.Own strC (w.heap.size + 2) 9 1 w' vs (List.replicate 37 (fit ⟨#[]⟩)) ∧ Below w.heap.size w w' := by
 have hFit := fun w => disk_Fit ⟨#[]⟩ w (by decide)
 have hrep := fun k => (List.replicate_succ' (n := k) (a := fit ⟨#[]⟩))
 generalize fit ⟨#[]⟩ = z at *
 replace hFit := hid hFit
 replace hrep := hid hrep
 go_enter Tryz.func20, Tryz.ntmps20
 go_wp2
 go_loopw [2] (fun i wr => ∃ k : Nat, k ≤ 37 ∧ i = .int .i64 k ∧ ∃ vo, Wb.Own strC (w.heap.size + 2) 9 1 wr vo (List.replicate k z) ∧ Blk wr w.heap.size #[.slice none 0 0, .slice none 0 0] 47 ∧ Blk wr (w.heap.size + 1) #[vo, .slice none 0 0] 47 ∧ Below w.heap.size w wr) (fun i _ => 37 - (intOf i).toNat)
 case atStart => exact ⟨0, by decide, rfl, _, Own.nil _ _ _ _ _, (Blk.new w _ _).alloc _, Blk.newAt (by simp), by exact Zlo⟩
 case round =>
  obtain ⟨k, hk, rfl, vo, hown, k0, k1, hnx⟩ := hrel
  obtain ⟨ao, capo, rfl⟩ := hown.form
  have lt0 := k0.lt
  have lt1 := k1.lt
  have c0 := k0.cell 0
  have c1 := k0.cell 1
  have c2 := k1.cell 0
  have c3 := k1.cell 1
  simp only [Zga, Zgb, Zgc] at c0 c1 c2 c3
  have hkl : (List.replicate k z).length = k := List.length_replicate
  rw [hkl] at hown k1 c2
  clear hkl
  by_cases hlt : k < 37
  ·have hr := hid (hrep.out k)
   have hlen : (List.replicate k z).length = k := List.length_replicate
   generalize List.replicate k z = Mk at *
   go_wp2
   go_region_law (first
    | (refine step_call 6 _ _ (by rfl) (by rfl) #[.string ⟨#[]⟩] (by rfl) ⟨_, _, Tryz.func6, by kernel_rfl, rfl⟩ (hFit.out _) ?_; rintro e w3 ⟨rfl, hb3⟩; refine ⟨_, rfl, ?_⟩; have k0' := k0.drew.step hb3; have k1' := k1.drew.step hb3; have c2' := k1'.cell 0; simp only [Zga, Zgb, Zgc] at c2'; have hown3 := hown.drew.below hb3; have hnx3 := hnx.drew.trans (hb3.mono (by simp; omega)); have lt1' := k1'.lt)
    | go_loud (refine step_push (by rfl) _ _ 44 (by rfl) (w.heap.size + 2) _ 1 16 strC_flat elemStr (hown3.alloc _) (by rfl) z w3.heap.size (Blk.newAt (w := w3) rfl) (by rfl) (by rfl) k hlen (by omega) (by omega) (by (try simp); omega) ?_; intro a4 cap4 w4 hown4 hb4 _; have k4 := (k1'.alloc _).below hb4 (by omega); have f5 := k4.cell 0; simp only [Zga, Zgb, Zgc] at f5; have f6 := k4.free 0))
   all_goals
    go_wp2
    go_roundw
    case rel => exact ⟨k + 1, by omega, by go_num, _, by rw [hr.out]; exact hown4.setCell (p := ⟨w.heap.size + 1, 0, none⟩) (by simp) _, ((k0'.alloc _).below hb4 (by omega)).set_other _ _ (by simp), k4.set 0 _, ((allocB hnx3 (by omega) _).trans (hb4.mono (by omega))).setCell (by simp) _⟩
    case measure => simp [intOf]; omega
  ·obtain rfl : k = 37 := by omega
   have f1 := k0.free 0
   have f2 := k0.free 1
   go_wp2
   have hF : Below w.heap.size w ((wr.setCell ⟨w.heap.size, 0, none⟩ (.slice ao 37 capo)).setCell ⟨w.heap.size, 1, none⟩ (.slice none 0 0)) := (hnx.setCell (by simp) _).setCell (by simp) _
   have ho := (hown.setCell (p := ⟨w.heap.size, 0, none⟩) (by simp) (.slice ao 37 capo)).setCell (p := ⟨w.heap.size, 1, none⟩) (by simp) (.slice none 0 0)
   exact bodyPost_ret (v := .agg #[.slice ao 37 capo, .slice none 0 0]) (by simp [results, Tryz.results20, go_sem, c0, c1]) rfl ⟨_, rfl, ho, hF⟩
end Go.Proofs.YtjhmfljlclajnaaGreatDoor
namespace Go.Proofs.YtjhmfljlclajnaaGreatDoor
open Go.RowKit Wb
set_option maxRecDepth 100000
set_option maxHeartbeats 2000000
theorem disk_Crash_bad (d : Dsk) (draw : Int) (v : Value) (w : World) (hd : RDisk w v d) (h : ¬ (goodD d = true ∧ 0 ≤ draw)) :
    Calls Tryz.prog 30 #[v, .int .i64 draw] w fun e w' => ∃ v', e = .returned (.tuple #[v', .int .i64 (crashE d draw)]) ∧ RDisk w' v' (crashD d draw) ∧ NewD w.heap.size w' v v' d (crashD d draw) ∧ Below w.heap.size w w' := by
 have hG := fun w (hh : RDisk w v d) => disk_Good d v w hh
 have hd2 := hd
 obtain ⟨vs, vw, rfl, hs, hw, n1, n2⟩ := hd
 obtain ⟨a, cap, rfl, ca1, ca2⟩ := hs.form
 obtain ⟨b, bcap, rfl, cb1, cb2⟩ := hw.form
 have he : crashE d draw = 2 := by unfold crashE; rw [if_neg h]
 have hv : crashD d draw = d := by unfold crashD; rw [if_neg h]
 rw [hv, he]
 clear he hv hs hw
 replace hd2 := hid hd2
 by_cases hg : goodD d = true
 ·have hneg : draw < 0 := Int.not_le.1 (fun hh => h ⟨hg, hh⟩)
  rw [hg] at hG
  clear hg h
  replace hG := hid hG
  go_enter Tryz.func30, Tryz.ntmps30
  go_wp2_with (go_at_call 49; refine (hG.out _ (hd2.out.below (by exact Zlo))).mono ?_; rintro e w1 ⟨rfl, hb1⟩; obtain ⟨hbc, hbf⟩ := bcell hb1; have hbz := hb1.size; try simp only [World.size_alloc, World.size_setCell, World.size_drew] at hbz; have hz0 := Nat.lt_of_lt_of_le (n := w.heap.size) (by omega) hbz; have hz1 := Nat.lt_of_lt_of_le (n := w.heap.size + 1) (by omega) hbz)
  exact bodyPost_ret (v := .tuple #[.agg #[.slice a d.safe.length cap, .slice b d.writes.length bcap], .int .i64 2]) (by simp [results, Tryz.results30, go_sem, hbc]) rfl ⟨_, rfl, hd2.out.below (by exact Zlo), hd2.out.same _, by exact Zlo⟩
 ·rw [Bool.not_eq_true _ |>.mp hg] at hG
  clear hg h
  replace hG := hid hG
  go_enter Tryz.func30, Tryz.ntmps30
  go_wp2_with (go_at_call 49; refine (hG.out _ (hd2.out.below (by exact Zlo))).mono ?_; rintro e w1 ⟨rfl, hb1⟩; obtain ⟨hbc, hbf⟩ := bcell hb1; have hbz := hb1.size; try simp only [World.size_alloc, World.size_setCell, World.size_drew] at hbz; have hz0 := Nat.lt_of_lt_of_le (n := w.heap.size) (by omega) hbz; have hz1 := Nat.lt_of_lt_of_le (n := w.heap.size + 1) (by omega) hbz)
  exact bodyPost_ret (v := .tuple #[.agg #[.slice a d.safe.length cap, .slice b d.writes.length bcap], .int .i64 2]) (by simp [results, Tryz.results30, go_sem, hbc]) rfl ⟨_, rfl, hd2.out.below (by exact Zlo), hd2.out.same _, by exact Zlo⟩
theorem disk_Crash_good (d : Dsk) (x : Nat) (v : Value) (w : World) (hd : RDisk w v d) (hg : goodD d = true) (hx : x ≤ 9223372036854775807) :
    Calls Tryz.prog 30 #[v, .int .i64 (x : Int)] w fun e w' => ∃ v', e = .returned (.tuple #[v', .int .i64 0]) ∧ RDisk w' v' ⟨crashL d x d.safe.length, []⟩ ∧ NewD w.heap.size w' v v' d ⟨crashL d x d.safe.length, []⟩ ∧ Below w.heap.size w w' := by
 have hG := fun w (hh : RDisk w v d) => disk_Good d v w hh
 have hd2 := hd
 obtain ⟨vs, vw, rfl, hs, hw, n1, n2⟩ := hd
 obtain ⟨a, cap, rfl, ca1, ca2⟩ := hs.form
 obtain ⟨b, bcap, rfl, cb1, cb2⟩ := hw.form
 rw [hg] at hG
 obtain ⟨g1, g2, _, _⟩ := (goodD_iff d).1 hg
 clear hg
 have hC := fun v w (hh : RL strC w v d.safe) => clone_Strings d.safe v w hh n1
 have hset := fun (k : Nat) (hk : k < d.safe.length) => mixL_set d x hk
 have hlen := fun (k : Nat) (hk : k ≤ d.safe.length) => mixL_len d x hk
 have hget := fun (k : Nat) => crashAt_get d x k (Nat.mod_lt _ (textsAt_pos d k))
 have hpos := fun (k : Nat) => textsAt_pos d k
 have hle := fun (k : Nat) => textsAt_le d k
 have hdr := fun (k : Nat) => drawAt_le d x k
 have hds := fun (k : Nat) => drawAt_succ d x k
 have htx := fun (k : Nat) (hk : k < d.safe.length) => textsAt_eq d hk
 have hhit := fun (n k : Nat) (hn : n < d.safe.length) (hk : k < d.writes.length) => afterL_hit d.safe[n] n hk
 have hmiss := fun (n k : Nat) (hn : n < d.safe.length) (hk : k < d.writes.length) => afterL_miss d.safe[n] n hk
 have hal := fun (n k : Nat) (hn : n < d.safe.length) => afterL_len d.safe[n] n (d.writes.take k)
 have hm0 := mixL_zero d x
 have hmf := mixL_full d x
 have hcl := crashL_len d x d.safe.length
 replace hd2 := hid hd2; replace hG := hid hG; replace hC := hid hC; replace hs := hid hs; replace hw := hid hw; replace hset := hid hset; replace hlen := hid hlen
 replace hget := hid hget; replace hpos := hid hpos; replace hle := hid hle; replace hdr := hid hdr; replace hds := hid hds; replace htx := hid htx; replace hhit := hid hhit; replace hmiss := hid hmiss; replace hal := hid hal
 replace hm0 := hid hm0; replace hmf := hid hmf; replace hcl := hid hcl; replace g1 := hid g1
 go_enter Tryz.func30, Tryz.ntmps30
 go_wp2_with (first
  | (go_at_call 49; refine (hG.out _ (hd2.out.below (by exact Zlo))).mono ?_; rintro e w1 ⟨rfl, hb1⟩; obtain ⟨hbc, hbf⟩ := bcell hb1; have hbz := hb1.size; try simp only [World.size_alloc, World.size_setCell, World.size_drew] at hbz; have hz0 := Nat.lt_of_lt_of_le (n := w.heap.size) (by omega) hbz; have hz1 := Nat.lt_of_lt_of_le (n := w.heap.size + 1) (by omega) hbz)
  | (go_at_call 52; go_loud (refine (hC.out _ _ (hs.out.below (by exact Zlo))).mono ?_; rintro e w3 ⟨v3, rfl, hown3, hb3⟩; obtain ⟨a3, cap3, rfl⟩ := hown3.form; have k0 : Blk w3 w.heap.size #[.slice a d.safe.length cap, .slice b d.writes.length bcap] 47 := (((Blk.new w _ _).alloc _).step hb1).step hb3; have k1 : Blk w3 (w.heap.size + 1) #[.slice none 0 0, .slice none 0 0] 47 := ((Blk.newAt (w := w.alloc _) (by simp)).step hb1).step hb3; have hnx3 : Below w.heap.size w w3 := (by exact Zlo); have lt1 := k1.lt; have lt0 := k0.lt; have c0 := k0.cell 0; have c1 := k0.cell 1; simp only [Zga, Zgb, Zgc] at c0 c1; have og := fun g (hh : Value.ownBlock (.slice a3 d.safe.length cap3) = some g) => World.ownsRow.lt hown3 g hh; replace og := hid og; have lz := hb1.size; clear hbc hbf hbz hb1 hb3)))
 have hz1w : w.heap.size + 1 < w1.heap.size := by (try simp at lz); omega
 have o0 := hown3
 rw [← hm0.out] at o0
 go_loopw [1, 26] (fun s1 i wr => ∃ k : Nat, k ≤ d.safe.length ∧ i = .int .i64 k ∧ s1 = .int .i64 (drawAt d x k : Nat) ∧ Wb.Own strC w1.heap.size 9 1 wr (.slice a3 d.safe.length cap3) (mixL d x k) ∧ Blk wr w.heap.size #[.slice a d.safe.length cap, .slice b d.writes.length bcap] 47 ∧ Blk wr (w.heap.size + 1) #[.slice none 0 0, .slice none 0 0] 47 ∧ Blk wr w3.heap.size #[.slice a3 d.safe.length cap3, .slice none 0 0] 47 ∧ Below w.heap.size w wr) (fun _ i _ => d.safe.length - (intOf i).toNat)
 case atStart => exact ⟨0, Nat.zero_le _, rfl, rfl, o0.alloc _, k0.alloc _, k1.alloc _, Blk.new _ _ _, allocB hnx3 (by omega) _⟩
 case round =>
  clear k0 k1 hnx3 lt0 lt1 c0 c1 o0 hown3
  obtain ⟨wo, rfl⟩ : ∃ wo : World, wo = wr := ⟨_, rfl⟩
  obtain ⟨k, hk, rfl, rfl, hown, k0, k1, k2, hnx⟩ := hrel
  have lt0 := k0.lt
  have lt1 := k1.lt
  have lt2 := k2.lt
  have c0 := k0.cell 0
  have c1 := k0.cell 1
  have c2 := k1.cell 0
  have c3 := k1.cell 1
  have c4 := k2.cell 0
  have c5 := k2.cell 1
  simp only [Zga, Zgb, Zgc] at c0 c1 c2 c3 c4 c5
  by_cases hlt : k < d.safe.length
  ·obtain ⟨b2, off, rfl, d0⟩ := RL.at1 (fun x => .string x) (fun _ => rfl) (hs.out.below hnx) hlt
   have ld := World.block_lt_of_cell? _ _ d0
   dsimp only at ld
   have hset := hset.out k hlt
   have hget := hget.out k
   have hpos := hpos.out k
   have hle := hle.out k
   have hdr := hdr.out k
   have hds := hds.out k
   have htx := htx.out k hlt
   have hhit := fun j hj => hhit.out k j hlt hj
   have hmiss := fun j hj => hmiss.out k j hlt hj
   have hal := fun j => hal.out k j hlt
   have hml := hlen.out k (by omega)
   generalize mixL d x k = M at *
   replace hset := hid hset; replace hget := hid hget; replace hds := hid hds; replace htx := hid htx; replace hhit := hid hhit; replace hmiss := hid hmiss; replace hal := hid hal; replace hml := hid hml; replace hpos := hid hpos; replace hle := hid hle
   obtain ⟨sk, hsk⟩ : ∃ sk, sk = d.safe[k] := ⟨_, rfl⟩
   rw [← hsk] at d0 htx hhit hmiss hal
   clear hsk
   generalize drawAt d x k = y at *
   go_wp2
   have kl : Blk (wo.alloc (.cells #[.string sk] 9)) wo.heap.size #[.string sk] 9 := Blk.new wo _ _
   go_loopw [8, 10, 38] (fun l _ i wi => ∃ j : Nat, j ≤ d.writes.length ∧ i = .int .i64 j ∧ Wb.Own strC wo.heap.size 9 1 wi l (afterL sk k (d.writes.take j)) ∧ Below wo.heap.size wo wi ∧ wo.heap.size < wi.heap.size) (fun _ _ i _ => d.writes.length - (intOf i).toNat)
   case atStart =>
    refine ⟨0, Nat.zero_le _, rfl, ?_, bal (b0 wo) _, by simp⟩
    rw [List.take_zero, afterL_nil]
    exact Own.lit (f := strC) strC_flat wo.heap.size 9 wo [sk] (by simp) (by show 1 ≤ maxLen; decide) rfl (by simp) rfl
   case round =>
    obtain ⟨j, hj, rfl, hl, hbi, hzi⟩ := hrel
    by_cases hlt2 : j < d.writes.length
    ·obtain ⟨b3, off3, rfl, d1, d2⟩ := RL.at2 (fun x => .int .i64 x.at_) (fun x => .string x.text) (fun _ => rfl) ((hw.out.below hnx).below hbi) hlt2
     have ld3 := World.block_lt_of_cell? _ _ d1
     dsimp only at ld3
     by_cases heq : d.writes[j].at_ = k
     ·have hh := hhit.out j hlt2 heq
      have hq := hal.out j
      rw [List.length_take] at hq
      have e1 : (d.writes[j].at_ == (k : Int)) = true := beq_iff_eq.2 heq
      replace hh := hid hh
      clear heq
      generalize d.writes[j] = xw at *
      generalize afterL sk k (d.writes.take j) = ls at *
      have hqq : ls.length ≤ 201 := by omega
      clear hq
      go_wp2_with (at_builtin; go_loud (refine wpList_push rfl _ _ _ rfl wo.heap.size _ 1 16 strC_flat elemStr (hl.alloc _) rfl xw.text rfl rfl ?c1 ?c2 ?c3 ?c4))
      all_goals try (case c1 => omega)
      all_goals try (case c2 => unfold maxLen; omega)
      all_goals try (case c3 => simp; omega)
      case c4 =>
       intro v7 w7 hown7 hbel7 _
       rw [← hh.out] at hown7
       have hz7 := hbel7.size
       go_wp2
       go_roundw
       case rel => exact ⟨j + 1, by omega, by go_num, hown7, (allocB hbi (by omega) _).trans (hbel7.mono (by omega)), by simp at hz7; omega⟩
       case measure => simp [intOf]; omega
     ·have hh := hmiss.out j hlt2 heq
      have e1 : (d.writes[j].at_ == (k : Int)) = false := beq_eq_false_iff_ne.2 heq
      replace hh := hid hh
      clear heq
      generalize d.writes[j] = xw at *
      go_wp2
      go_roundw
      case rel => exact ⟨j + 1, by omega, by go_num, by rw [hh.out]; exact hl.alloc _, allocB hbi (by omega) _, by simp; omega⟩
      case measure => simp [intOf]; omega
    ·rw [List.take_of_length_le (by omega), ← htx.out] at hl
     obtain ⟨al, capl, rfl⟩ := hl.form
     have k0 := k0.step hbi
     have k1 := k1.step hbi
     have k2 := k2.step hbi
     have hown := hown.below hbi
     have hnx := hnx.trans (hbi.mono (by omega))
     clear c0 c1 c2 c3 c4 c5 lt0 lt1 lt2 d0 ld kl
     have lt2 := k2.lt
     have c4 := k2.cell 0
     simp only [Zga, Zgb, Zgc] at c4
     replace hpos := hpos.out
     replace hle := hle.out
     replace hget := hget.out
     replace hds := hds.out
     have hmx := Nat.mod_lt y hpos
     have hmi : ((y : Int) % ((textsAt d k).length : Int)) = ((y % (textsAt d k).length : Nat) : Int) := rfl
     have hmt : ((y : Int).tmod ((textsAt d k).length : Int)) = ((y % (textsAt d k).length : Nat) : Int) := rfl
     have hdi : ((y : Int) / ((textsAt d k).length : Int)) = ((y / (textsAt d k).length : Nat) : Int) := rfl
     have hdt : ((y : Int).tdiv ((textsAt d k).length : Int)) = ((y / (textsAt d k).length : Nat) : Int) := rfl
     rw [← hds] at hdi hdt
     generalize hye : drawAt d x (k + 1) = y2 at *
     replace hye := hid hye
     obtain ⟨bl, offl, rfl, z0⟩ := RL.at1 (fun x => .string x) (fun _ => rfl) hl.reads hmx
     rw [hget] at z0
     clear hget
     replace hds := hid hds
     generalize y % (textsAt d k).length = q at *
     generalize crashAt d x k = t at *
     generalize textsAt d k = ls at *
     have hne0 : ((ls.length : Int) == 0) = false := beq_eq_false_iff_ne.2 (by omega)
     have hm := hml.out
     obtain ⟨g, cap4, hv, hgb, hgl, hgc, hpk⟩ := hown.poke strC_flat (k := k) (by omega)
     simp only [Value.slice.injEq] at hv
     obtain ⟨rfl, _, rfl⟩ := hv
     obtain ⟨z2, z3⟩ := hgc 0 (by decide)
     replace hpk := hpk 0 t (.string t) (by decide) rfl
     rw [hset.out, Nat.mul_one, Nat.add_zero] at hpk
     simp only [Nat.mul_one, Nat.add_zero, strC, List.getElem?_cons_zero] at z2 z3
     replace hpk := hid hpk
     have hne := og.out g rfl
     have hm3 : k < M.length := by omega
     obtain ⟨old, hold⟩ : ∃ o, M[k] = o := ⟨_, rfl⟩
     rw [hold] at z3
     clear hold hm hown hgc hm3
     have hq2 : (q : Int) < (ls.length : Int) := by omega
     have hk2 : (k : Int) < (d.safe.length : Int) := by omega
     have lz0 := World.block_lt_of_cell? _ _ z0
     dsimp only at lz0
     have hy0 : (y : Int) ≤ 9223372036854775807 := by omega
     have hys : y2 ≤ y := by rw [hds.out]; exact Nat.div_le_self _ _
     have hy2 : IntKind.i64.wrap (y2 : Int) = y2 := IntWalk.i64_in _ (by omega)
     go_wp2
     go_region
     all_goals
      go_wp2
      go_roundw
      case rel => exact ⟨k + 1, by omega, by go_num, by rw [hye.out], hpk.out, k0.drew.set_other _ _ (by simp; omega), k1.drew.set_other _ _ (by simp; omega), k2.drew.set_other _ _ (by simp; omega), hnx.drew.setCell (by simp; omega) _⟩
      case measure => simp [intOf]; omega
  ·obtain rfl : k = d.safe.length := by omega
   rw [hmf.out] at hown
   have f1 := k1.free 0
   have f2 := k1.free 1
   have hcl2 := hcl.out
   go_wp2
   have hF : Below w.heap.size w ((wo.setCell ⟨w.heap.size + 1, 0, none⟩ (.slice a3 d.safe.length cap3)).setCell ⟨w.heap.size + 1, 1, none⟩ (.slice none 0 0)) := (hnx.setCell (by simp) _).setCell (by simp) _
   have ho := (hown.setCell (p := ⟨w.heap.size + 1, 0, none⟩) (by simp; omega) (.slice a3 d.safe.length cap3)).setCell (p := ⟨w.heap.size + 1, 1, none⟩) (by simp; omega) (.slice none 0 0)
   refine bodyPost_ret (v := .tuple #[.agg #[.slice a3 d.safe.length cap3, .slice none 0 0], .int .i64 0]) (by simp [results, Tryz.results30, go_sem, c2, c3]) rfl ⟨_, rfl, ⟨_, _, rfl, ho.reads, RL.nil _ _, by rw [hcl.out]; exact n1, by simp⟩, ⟨_, _, _, _, rfl, rfl, ho.slot (by omega), .nil⟩, hF⟩
theorem disk_CrashN (d : Dsk) (draw : Int) (v : Value) (w : World) (hd : RDisk w v d) (hx : draw ≤ 9223372036854775807) :
    Calls Tryz.prog 30 #[v, .int .i64 draw] w fun e w' => ∃ v', e = .returned (.tuple #[v', .int .i64 (crashE d draw)]) ∧ RDisk w' v' (crashD d draw) ∧ NewD w.heap.size w' v v' d (crashD d draw) ∧ Below w.heap.size w w' := by
 by_cases h : goodD d = true ∧ 0 ≤ draw
 ·obtain ⟨hg, h0⟩ := h
  have he : crashE d draw = 0 := by unfold crashE; rw [if_pos ⟨hg, h0⟩]
  have hv : crashD d draw = ⟨crashL d draw.toNat d.safe.length, []⟩ := by unfold crashD; rw [if_pos ⟨hg, h0⟩]
  rw [he, hv]
  have := disk_Crash_good d draw.toNat v w hd hg (by omega)
  rwa [Int.toNat_of_nonneg h0] at this
 ·exact disk_Crash_bad d draw v w hd h
end Go.Proofs.YtjhmfljlclajnaaGreatDoor
namespace Go.Proofs.YtjhmfljlclajnaaGreatDoor
open Go.RowKit Wb
set_option maxRecDepth 100000
set_option maxHeartbeats 4000000
theorem disk_Read (d : Dsk) (n : Int) (v : Value) (w : World) (hd : RDisk w v d) :
    Calls Tryz.prog 41 #[v, .int .i64 n] w fun e w' => e = .returned (.tuple #[.string (readD d n), .int .i64 (readE d n)]) ∧ Below w.heap.size w w' := by
 have hG := fun w (hh : RDisk w v d) => disk_Good d v w hh
 have hA := fun w => disk_at n w
 have hd2 := hd
 obtain ⟨vs, vw, rfl, hs, hw, n1, n2⟩ := hd
 obtain ⟨a, cap, rfl, _⟩ := hs.form
 obtain ⟨b, bcap, rfl, _⟩ := hw.form
 replace hd2 := hid hd2
 by_cases hg : goodD d = true
 ·rw [hg] at hG
  by_cases ha : isAt n = true
  ·rw [ha] at hA
   have hr : readD d n = lastT (safeAt d n) n (d.writes.take d.writes.length) := by unfold readD; rw [if_pos ⟨hg, ha⟩, List.take_length]
   have he : readE d n = 0 := by unfold readE; rw [if_pos ⟨hg, ha⟩]
   rw [he]
   obtain ⟨g1, g2, _, _⟩ := (goodD_iff d).1 hg
   obtain ⟨h0, h1⟩ : 0 ≤ n ∧ n < 37 := of_decide_eq_true ha
   obtain ⟨m, rfl⟩ : ∃ m : Nat, n = m := ⟨n.toNat, by omega⟩
   have hm : m < d.safe.length := by omega
   have hsf : safeAt d m = d.safe[m] := by simp [safeAt, hm]
   rw [hsf] at hr
   clear hg ha he hsf
   generalize readD d m = r at *
   obtain ⟨safe, writes⟩ := d
   dsimp only at *
   have hlast := fun (k : Nat) (hk : k < writes.length) => lastT_hit safe[m] m hk
   have hmiss := fun (k : Nat) (hk : k < writes.length) => lastT_miss safe[m] m hk
   have hl0 := lastT_nil safe[m] m
   have hm3 : m < safe.length := hm
   replace hs := hid hs
   replace hw := hid hw
   replace hG := hid hG
   replace hA := hid hA
   replace hr := hid hr
   replace g1 := hid g1
   replace hlast := hid hlast
   replace hmiss := hid hmiss
   replace hl0 := hid hl0
   replace hm3 := hid hm3
   go_enter Tryz.func41, Tryz.ntmps41
   go_wp2_with (first
    | (go_at_call 49; refine (hG.out _ (hd2.out.below (by exact Zlo))).mono ?_; rintro e w1 ⟨rfl, hb1⟩; obtain ⟨hbc, hbf⟩ := bcell hb1; have hbz := hb1.size; try simp only [World.size_alloc, World.size_setCell, World.size_drew] at hbz; have hz0 := Nat.lt_of_lt_of_le (n := w.heap.size) (by omega) hbz)
    | (go_at_call 50; refine (hA.out _).mono ?_; rintro e w2 ⟨rfl, rfl⟩))
   have kb : Blk w1 w.heap.size #[.slice a safe.length cap, .slice b writes.length bcap] 47 := (Blk.new w _ _).step hb1
   have hnx : Below w.heap.size w w1 := by exact Zlo
   clear hb1 hbc hbf
   have lt0 := kb.lt
   have c0 := kb.cell 0
   have c1 := kb.cell 1
   simp only [Zga, Zgb, Zgc] at c0 c1
   go_loop [6] (fun i => ∃ k : Nat, k ≤ writes.length ∧ i = .int .i64 ((k : Int) - 1) ∧ Hid (r = lastT safe[m] m (writes.take k))) (fun i => (intOf i + 1).toNat)
   case atStart => exact ⟨writes.length, Nat.le_refl _, rfl, hr.out⟩
   case round =>
    obtain ⟨k, hk, rfl, hrk⟩ := hrel
    rcases Nat.eq_zero_or_pos k with hk0 | hk0
    ·subst hk0
     obtain ⟨b2, off, rfl, d0⟩ := RL.at1 (fun x => .string x) (fun _ => rfl) (hs.out.below hnx) hm3.out
     have hrs : r = safe[m] := by rw [hrk.out, List.take_zero]; exact hl0.out
     replace hrs := hid hrs
     clear hrk
     generalize safe[m] = sm at *
     go_wp2
     go_ret2
     exact ⟨ret_st hrs.out.symm, hnx⟩
    ·obtain ⟨j, rfl⟩ : ∃ j, k = j + 1 := ⟨k - 1, by omega⟩
     have hj : j < writes.length := by omega
     obtain ⟨b2, off, rfl, d0, d1⟩ := RL.at2 (fun x => .int .i64 x.at_) (fun x => .string x.text) (fun _ => rfl) (hw.out.below hnx) hj
     by_cases heq : writes[j].at_ = m
     ·have hrs : r = writes[j].text := by rw [hrk.out]; exact hlast.out j hj heq
      replace hrs := hid hrs
      have e1 : (writes[j].at_ == (m : Int)) = true := beq_iff_eq.2 heq
      clear hrk heq
      generalize writes[j] = x at *
      go_wp2
      go_ret2
      exact ⟨ret_st hrs.out.symm, hnx⟩
     ·have hrs : r = lastT safe[m] m (writes.take j) := by rw [hrk.out]; exact hmiss.out j hj heq
      replace hrs := hid hrs
      have e1 : (writes[j].at_ == (m : Int)) = false := beq_eq_false_iff_ne.2 heq
      clear hrk heq
      generalize writes[j] = x at *
      go_wp2
      go_round
      case rel => exact ⟨j, by omega, by go_num, hrs⟩
      case measure => simp [intOf]
  ·have hr : readD d n = ⟨#[]⟩ := by unfold readD; rw [if_neg (fun hh => ha hh.2)]
   have he : readE d n = 2 := by unfold readE; rw [if_neg (fun hh => ha hh.2)]
   rw [hr, he]
   rw [Bool.not_eq_true _ |>.mp ha] at hA
   clear hs hw ha hg hr he
   replace hG := hid hG
   replace hA := hid hA
   go_enter Tryz.func41, Tryz.ntmps41
   go_wp2_with (first
    | (go_at_call 49; refine (hG.out _ (hd2.out.below (by exact Zlo))).mono ?_; rintro e w1 ⟨rfl, hb1⟩; obtain ⟨hbc, hbf⟩ := bcell hb1; have hbz := hb1.size; try simp only [World.size_alloc, World.size_setCell, World.size_drew] at hbz; have hz0 := Nat.lt_of_lt_of_le (n := w.heap.size) (by omega) hbz)
    | (go_at_call 50; refine (hA.out _).mono ?_; rintro e w2 ⟨rfl, rfl⟩))
   go_ret2
   exact ⟨rfl, by exact Zlo⟩
 ·have hr : readD d n = ⟨#[]⟩ := by unfold readD; rw [if_neg (fun hh => hg hh.1)]
  have he : readE d n = 2 := by unfold readE; rw [if_neg (fun hh => hg hh.1)]
  rw [hr, he]
  rw [Bool.not_eq_true _ |>.mp hg] at hG
  clear hs hw hg hr he
  replace hG := hid hG
  go_enter Tryz.func41, Tryz.ntmps41
  go_wp2_with (go_at_call 49; refine (hG.out _ (hd2.out.below (by exact Zlo))).mono ?_; rintro e w1 ⟨rfl, hb1⟩; obtain ⟨hbc, hbf⟩ := bcell hb1; have hbz := hb1.size; try simp only [World.size_alloc, World.size_setCell, World.size_drew] at hbz; have hz0 := Nat.lt_of_lt_of_le (n := w.heap.size) (by omega) hbz)
  go_ret2
  exact ⟨rfl, by exact Zlo⟩
end Go.Proofs.YtjhmfljlclajnaaGreatDoor
