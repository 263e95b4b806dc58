/- Parts of the proof: OrdQ OrdM RowI TxnR TxnA CopyT SlcA JwM. -/
import Derived.Test.YtjhmfljlclajnadGreatDoorKTopOrdered8
set_option linter.unusedVariables false
set_option linter.unusedSimpArgs false
set_option maxRecDepth 100000
set_option maxHeartbeats 40000000
namespace Wb
open Go Go.RowKit
structure DnO (k : Ob) (d : Dsk) : Prop where
 ex : ∃ txs q a u, LogI d txs q a u /\ ∀ b, isBlk b = true -> ordrOk (k.data b) (q - 1) (readD d (25 + b)) /\ (k.data b ≠ [] -> newestB txs b = none)
inductive OI (k : Ob) (j : Jn) : Prop
 | idle (hd : j.down = false) (hw : j.work = 0) (hB : ∀ b, isBlk b = true -> OC k j j.disk j.last b)
 | sealing (d : Dsk) (r : Ring) (us : List Int) (n : Nat) (hd : j.down = false) (hw : j.work = 1) (hu : UpI j d r us) (he : comE r j.sealed = 0) (hq : j.sealed.seq = j.last + 1) (hq2 : j.sealed.seq < 2147483646) (hsq : j.now.seq = j.last + 2)
     (hn : n < (comL r j.sealed).length) (hdk : j.disk = runD d ((comL r j.sealed).take n)) (hst : j.steps = (comL r j.sealed).drop n) (hB : ∀ b, isBlk b = true -> OC k j d (j.last + 1) b)
 | homing (d : Dsk) (n : Nat) (hd : j.down = false) (hw : j.work = 2) (hu : UpI j d j.ring j.used) (hsq : j.now.seq = j.last + 1) (hp : j.pending = j.done.length) (hn : n < (checkL (newestL j.done) j.ring.head (j.last + 1)).length) (hdk : j.disk = runD d ((checkL (newestL j.done) j.ring.head (j.last + 1)).take n))
     (hst : j.steps = (checkL (newestL j.done) j.ring.head (j.last + 1)).drop n) (hB : ∀ b, isBlk b = true -> OC k j d j.last b)
 | off (hd : j.down = true) (hw : j.work = 0) (hu : DnO k j.disk)
 | rising (d : Dsk) (n : Nat) (hd : j.down = true) (hw : j.work = 3) (hf : j.found = scanF d) (hu : DnO k d) (hn : n < (checkL (newestL (scanF d).txns) (scanF d).at_ (scanF d).next).length) (hdk : j.disk = runD d ((checkL (newestL (scanF d).txns) (scanF d).at_ (scanF d).next).take n))
     (hst : j.steps = (checkL (newestL (scanF d).txns) (scanF d).at_ (scanF d).next).drop n)
structure OJ (k : Ob) (j : Jn) : Prop where
 inv : InvJ j
 vi : VI j
 dn : k.down = j.down
 w : OI k j
theorem DnO.congr {k k2 : Ob} {d : Dsk} (h : DnO k d) (e1 : k2.data = k.data) : DnO k2 d := ⟨by rw [e1]; exact h.ex⟩
theorem OI.same {k : Ob} {j : Jn} (h : OI k j) (x : Bool) (n : Int) : OI { k with down := x } { j with acts := n } := by
 cases h with
 | idle hd hw hB => exact .idle hd hw fun b hb => (hB b hb).congr rfl rfl rfl rfl rfl rfl rfl
 | sealing d r us n hd hw hu he hq hq2 hsq hn hdk hst hB => exact .sealing d r us n hd hw (hu.congr rfl rfl) he hq hq2 hsq hn hdk hst fun b hb => (hB b hb).congr rfl rfl rfl rfl rfl rfl rfl
 | homing d n hd hw hu hsq hp hn hdk hst hB => exact .homing d n hd hw (hu.congr rfl rfl) hsq hp hn hdk hst fun b hb => (hB b hb).congr rfl rfl rfl rfl rfl rfl rfl
 | off hd hw hu => exact .off hd hw (hu.congr rfl)
 | rising d n hd hw hf hu hn hdk hst => exact .rising d n hd hw hf (hu.congr rfl) hn hdk hst
theorem OJ.acts {k : Ob} {j : Jn} (h : OJ k j) (n : Int) : OJ k { j with acts := n } := ⟨h.inv.acts n, vi_same h.vi rfl rfl rfl rfl, h.dn, by have := h.w.same k.down n; exact this⟩
theorem seeO_bad {k : Ob} {j : Jn} {a : Aj} {r : Rep} (h : r.code ≠ 0) : seeO k j a r = { k with down := j.down } := by unfold seeO; rw [if_pos h]
theorem OJ.bad {k : Ob} {j : Jn} {a : Aj} {r : Rep} (h : OJ k j) (hc : r.code ≠ 0) : OJ (seeO k j a r) j /\ okO k j a r := by
 rw [seeO_bad hc]
 exact ⟨⟨h.inv, h.vi, rfl, h.w.same _ j.acts⟩, fun h0 => absurd h0 hc⟩
theorem seeO_else {k : Ob} {j : Jn} {a : Aj} {r : Rep} (h2 : a.kind ≠ 2) (h3 : a.kind ≠ 3) (h4 : a.kind ≠ 4) (h8 : a.kind = 8 -> k.down = false \/ j.down = true) : seeO k j a r = { k with down := j.down } := by
 unfold seeO
 by_cases h : r.code ≠ 0
 ·rw [if_pos h]
 ·rw [if_neg h, if_neg (by omega), if_neg h3, if_neg]
  rintro ⟨g1, g2, g3⟩
  rcases h8 g1 with hh | hh
  ·rw [g2] at hh; cases hh
  ·rw [g3] at hh; cases hh
section
variable {d c : Dsk} {txs : List Txn} {q a : Int} {u n : Nat} {k : Ob} {j : Jn} {r : Ring}
theorem ord_chk (h : LogI d txs q a u) (ht : ∀ b, isBlk b = true -> ordrOk (k.data b) (q - 1) (readD d (25 + b)) /\ (k.data b ≠ [] -> newestB txs b = none)) (hn : n <= (checkL (newestL txs) a q).length) (hl : Left (runD d ((checkL (newestL txs) a q).take n)) c) : DnO k c := by
 obtain ⟨b1, b2, _⟩ := h.bounds
 have g := newestL_copies h.goods
 have hcl := chk_left g b1 b2 h.good h.clean hn hl
 have hno : ∀ b, isBlk b = true -> newestB txs b = none -> readD c (25 + b) = readD d (25 + b) := fun b hb hx => by
  obtain ⟨m, rfl, hm⟩ := blk_nat hb
  rcases hcl.home m hm with e | ⟨x, hx1, hx2, _⟩
  ·exact e
  ·have h6 := (mem_getC (copies_pw _ |>.1 g).1 x).1 hx1
   rw [hx2, newestL_get h.goods, hx] at h6
   cases h6
 have hok : ∀ b, isBlk b = true -> ordrOk (k.data b) (q - 1) (readD c (25 + b)) := fun b hb => by
  by_cases h0 : k.data b = []
  ·rw [h0]; exact ordOk_nil _ _
  ·rw [hno b hb ((ht b hb).2 h0)]; exact (ht b hb).1
 rcases h.chk hn hl with ⟨h1, _⟩ | ⟨h1, _⟩
 ·exact ⟨_, _, _, _, h1, fun b hb => ⟨hok b hb, (ht b hb).2⟩⟩
 ·exact ⟨_, _, _, _, h1, fun b hb => ⟨hok b hb, fun _ => rfl⟩⟩
theorem ord_end (h : LogI d txs q a u) (ht : ∀ b, isBlk b = true -> ordrOk (k.data b) (q - 1) (readD d (25 + b)) /\ (k.data b ≠ [] -> newestB txs b = none)) : ∀ b, isBlk b = true -> ordrOk (k.data b) (q - 1) (readD (runD d (checkL (newestL txs) a q)) (25 + b)) := fun b hb => by
 obtain ⟨b1, b2, _⟩ := h.bounds
 by_cases h0 : k.data b = []
 ·rw [h0]; exact ordOk_nil _ _
 ·have := chk_home (k := (checkL (newestL txs) a q).length) h.goods b1 b2 h.good h.clean hb ((ht b hb).2 h0)
  rw [List.take_length] at this
  rw [this]; exact (ht b hb).1
theorem OC.ord {b : Int} (h : OC k j d j.last b) : ordrOk (k.data b) j.last (readD d (25 + b)) /\ (k.data b ≠ [] -> newestB j.done b = none) := by
 obtain ⟨A, B, C, p1, p2, p3, p4, p5, p6, p7⟩ := h.ex
 refine ⟨fun l1 g l2 hl hg h2 => ?_, fun h0 => (h.r h0).2.2.2⟩
 have hD : ∀ x ∈ B ++ C, j.last < x.seq := fun x hx => by
  rcases List.mem_append.1 hx with hx | hx
  ·have := p3 x hx; omega
  ·have := p4 x hx; omega
 obtain ⟨e1, _⟩ := split_le p2 hD (p1.symm.trans hl) hg h2
 exact .inl (p5 g (by rw [e1]; simp))
theorem OC.ord1 {b : Int} (h : OC k j d (j.last + 1) b) (hc : readD c (25 + b) = readD d (25 + b) \/ ∃ s, getC j.sealed.dt b = some s /\ readD c (25 + b) = s) : ordrOk (k.data b) j.last (readD c (25 + b)) := by
 obtain ⟨A, B, C, p1, p2, p3, p4, p5, p6, p7⟩ := h.ex
 intro l1 g l2 hl hg h2
 have hD : ∀ x ∈ B ++ C, j.last < x.seq := fun x hx => by
  rcases List.mem_append.1 hx with hx | hx
  ·have := p3 x hx; omega
  ·have := p4 x hx; omega
 obtain ⟨e1, e2⟩ := split_le p2 hD (p1.symm.trans hl) hg h2
 rcases hc with hc | ⟨s, hs, hc⟩
 ·exact .inl (by rw [hc]; exact p5 g (by rw [e1]; simp))
 ·right
  have h0 : k.data b ≠ [] := by rw [hl]; simp
  have h6 := p6 h0
  rw [hs] at h6
  unfold lastT2 at h6
  cases hB : B.getLast? with
  | none => rw [hB] at h6; cases h6
  | some x =>
   rw [hB] at h6
   have : x ∈ B := List.mem_of_getLast? hB
   refine ⟨x, by rw [e2]; exact List.mem_append_left _ this, ?_⟩
   rw [hc]
   simpa using h6.symm
theorem OC.ord2 {b : Int} (h : OC k j d (j.last + 1) b) (hc : ∀ s, getC j.sealed.dt b = some s -> readD c (25 + b) = s) (hc2 : getC j.sealed.dt b = none -> readD c (25 + b) = readD d (25 + b)) : ordrOk (k.data b) (j.last + 1) (readD c (25 + b)) /\ (k.data b ≠ [] -> newestB (j.done ++ [j.sealed]) b = none) /\ (∀ A B C, k.data b = A ++ (B ++ C) -> True) := by
 obtain ⟨A, B, C, p1, p2, p3, p4, p5, p6, p7⟩ := h.ex
 refine ⟨fun l1 g l2 hl hg h2 => .inl ?_, fun h0 => ?_, fun _ _ _ _ => trivial⟩
 ·have hAB : ∀ x ∈ A ++ B, x.seq <= j.last + 1 := fun x hx => by
    rcases List.mem_append.1 hx with hx | hx
    · have := p2 x hx; omega
    · have := p3 x hx; omega
  have hC : ∀ x ∈ C, j.last + 1 < x.seq := fun x hx => by have := p4 x hx; omega
  obtain ⟨e1, e2⟩ := split_le hAB hC (by rw [<- hl, p1, List.append_assoc]) hg h2
  have h0 : k.data b ≠ [] := by rw [hl]; simp
  have h6 := p6 h0
  by_cases hB : B = []
  ·rw [hB] at e1 h6
   rw [hc2 h6]
   exact p5 g (by rw [List.append_nil] at e1; rw [e1]; simp)
  ·have hl : B.getLast? = some g := by
     have := congrArg List.getLast? e1
     rw [last_app hB] at this
     simpa using this
   unfold lastT2 at h6
   rw [hl] at h6
   exact hc _ h6
 ·obtain ⟨_, _, ⟨h1, h2⟩, h3⟩ := h.r h0
  rw [newestB_snoc, turnT_else h1 h2]
  exact h3
end
theorem dnO_chk {k : Ob} {d c : Dsk} {n : Nat} (h : DnO k d) (hk : n <= (checkL (newestL (scanF d).txns) (scanF d).at_ (scanF d).next).length) (hl : Left (runD d ((checkL (newestL (scanF d).txns) (scanF d).at_ (scanF d).next).take n)) c) : DnO k c := by
 obtain ⟨txs, q, a, u, hL, h5⟩ := h.ex
 rw [hL.found] at hk hl
 dsimp only at hk hl
 rw [newestL_log] at hk hl
 exact ord_chk hL h5 hk hl
theorem o_crash {k : Ob} {j : Jn} {a : Aj} (hk : a.kind = 10) (h : OJ k j) : OJ (seeO k (crashJ j a.n).1 a (noR (crashJ j a.n).2)) (crashJ j a.n).1 /\ okO k (crashJ j a.n).1 a (noR (crashJ j a.n).2) := by
 have hI := inv_crash a.n h.inv
 by_cases hc : crashE j.disk a.n = 0
 rotate_left
 ·have e : crashJ j a.n = (j, crashE j.disk a.n) := by unfold crashJ; rw [if_neg hc]
  rw [e]
  exact h.bad hc
 have e : crashJ j a.n = ({ zeroJ (crashD j.disk a.n) j.last j.acts with down := true }, 0) := by unfold crashJ; rw [if_pos hc]
 rw [e] at hI ⊢
 dsimp only at hI ⊢
 refine ⟨?_, fun _ h8 => by omega⟩
 rw [seeO_else (by omega) (by omega) (by omega) (by omega)]
 refine ⟨hI, vi_zero (q := 0) (p := 0) rfl rfl rfl, rfl, .off rfl rfl (DnO.congr (k := k) ?_ rfl)⟩
 show DnO k (crashD j.disk a.n)
 have hl := Left.crash hc
 have hv := h.inv
 cases h.w with
 | idle hd hw hB =>
  obtain ⟨u1, u2, u3, u4⟩ := hv.up hw (.inl hd)
  refine ⟨_, _, _, _, u1.log.keep hl, fun b hb => ?_⟩
  obtain ⟨m, em, hm, _⟩ := nat_home hb
  have := (hB b hb).ord
  rw [show j.last + 1 - 1 = j.last by omega, em, hl.same u1.log.good u1.log.clean hm, <- em]
  exact this
 | sealing d r us n hd hw hu he hq hq2 hsq hn hdk hst hB =>
  have hl2 := hl
  rw [hdk] at hl2
  have hg := (goodR_iff r).1 hu.ring
  have g := (comE_zero he).2.1
  have hcl := com_left he hu.log.good hu.log.clean (Nat.le_of_lt hn) hl2
  rw [<- hdk] at hcl
  rcases hu.log.com he rfl (by omega) hq (by omega) (Nat.le_of_lt hn) hl2 with ⟨h1, _⟩ | ⟨h1, hlen⟩
  ·rw [<- hdk] at h1
   refine ⟨_, _, _, _, h1, fun b hb => ⟨?_, fun h0 => ((hB b hb).r h0).2.2.2⟩⟩
   rw [show j.last + 1 - 1 = j.last by omega]
   refine (hB b hb).ord1 ?_
   obtain ⟨m, rfl, hm⟩ := blk_nat hb
   rcases hcl.home m hm with e | ⟨x, hx1, hx2, hx3⟩
   ·exact .inl e
   ·have h6 := (mem_getC (copies_pw _ |>.1 g.dt).1 x).1 hx1
    rw [hx2] at h6
    exact .inr ⟨_, h6, hx3⟩
  ·rw [<- hdk] at h1
   refine ⟨_, _, _, _, h1, fun b hb => ?_⟩
   rw [show j.last + 1 + 1 - 1 = j.last + 1 by omega]
   have := (hB b hb).ord2 (c := crashD j.disk a.n) (fun s hs => ?_) (fun hs => ?_)
   ·exact ⟨this.1, this.2.1⟩
   ·have hmem : (⟨b, s⟩ : Cpy) ∈ j.sealed.dt := (mem_getC (copies_pw _ |>.1 g.dt).1 ⟨b, s⟩).2 hs
    have hlen2 : (dataS j.sealed).length <= n := by
     have : (dataS j.sealed).length <= (comA r j.sealed).length := by unfold comA; rw [List.length_append]; omega
     omega
    exact hcl.data hlen2 _ hmem
   ·obtain ⟨m, rfl, hm⟩ := blk_nat hb
    rcases hcl.home m hm with e | ⟨x, hx1, hx2, _⟩
    ·exact e
    ·have h6 := (mem_getC (copies_pw _ |>.1 g.dt).1 x).1 hx1
     rw [hx2, hs] at h6
     cases h6
 | homing d n hd hw hu hsq hp hn hdk hst hB =>
  have hl2 := hl
  rw [hdk] at hl2
  have := ord_chk (k := k) hu.log (fun b hb => by rw [show j.last + 1 - 1 = j.last by omega]; exact (hB b hb).ord) (Nat.le_of_lt hn) hl2
  rw [<- hdk] at this
  exact this
 | off hd hw hu =>
  obtain ⟨txs, q, a, u, hL, h5⟩ := hu.ex
  refine ⟨txs, q, a, u, hL.keep hl, fun b hb => ?_⟩
  obtain ⟨m, em, hm, _⟩ := nat_home hb
  rw [em, hl.same hL.good hL.clean hm, <- em]
  exact h5 b hb
 | rising d n hd hw hf hu hn hdk hst =>
  have hl2 := hl
  rw [hdk] at hl2
  rw [hdk]
  exact dnO_chk hu (Nat.le_of_lt hn) hl2
theorem off_dn {j : Jn} (h : InvJ j) (hd : j.down = true) (hw : j.work = 0) : DnI j.disk j.last := by
 cases h with
 | idle hd2 => rw [hd2] at hd; cases hd
 | sealing _ _ _ _ hd2 => rw [hd2] at hd; cases hd
 | homing _ _ hd2 => rw [hd2] at hd; cases hd
 | off hj hu => exact hu
 | rising d k hj hu => rw [hj] at hw; cases hw
theorem o_begin {k : Ob} {j : Jn} {a : Aj} (hk : a.kind = 11) (h : OJ k j) : OJ (seeO k (beginJ j).1 a (noR (beginJ j).2)) (beginJ j).1 /\ okO k (beginJ j).1 a (noR (beginJ j).2) := by
 have hI := inv_begin h.inv
 by_cases h1 : j.down = false \/ j.work ≠ 0
 ·have e : beginJ j = (j, 9) := by unfold beginJ; rw [if_pos h1]
  rw [e]
  exact h.bad (show (9 : Int) ≠ 0 by decide)
 have hd : j.down = true := by
  cases hh : j.down with
  | true => rfl
  | false => exact absurd (.inl hh) h1
 have hw0 : j.work = 0 := Decidable.byContradiction fun hh => h1 (.inr hh)
 obtain ⟨e1, e2, e3, e4, _⟩ := (off_dn h.inv hd hw0).scan
 have e : beginJ j = ({ j with found := scanF j.disk, steps := checkL (newestL (scanF j.disk).txns) (scanF j.disk).at_ (scanF j.disk).next, work := 3 }, 0) := by
  unfold beginJ; rw [if_neg h1, if_neg (fun hh => hh e1), if_neg (fun hh => hh e3)]
 rw [e] at hI ⊢
 dsimp only at hI ⊢
 refine ⟨?_, fun _ h8 => by omega⟩
 rw [seeO_else (by omega) (by omega) (by omega) (by omega)]
 refine ⟨hI, vi_same h.vi rfl rfl rfl rfl, rfl, ?_⟩
 cases h.w with
 | idle hd2 => rw [hd2] at hd; cases hd
 | sealing d r us n hd2 => rw [hd2] at hd; cases hd
 | homing d n hd2 => rw [hd2] at hd; cases hd
 | off hd hw hu => exact .rising j.disk 0 hd rfl rfl (hu.congr rfl) e4 rfl rfl
 | rising d n hd2 hw => rw [hw] at hw0; cases hw0
theorem o_commit {k : Ob} {j : Jn} {a : Aj} (hk : a.kind = 6) (hd : j.down = false) (h : OJ k j) : OJ (seeO k (commitJ j).1 a (commitJ j).2) (commitJ j).1 /\ okO k (commitJ j).1 a (commitJ j).2 := by
 have hI := inv_commit hd h.inv
 have hV := (vi_commit h.inv.sealed0 h.vi).1
 by_cases h1 : j.work ≠ 0 \/ openB j.now = true
 ·have e : commitJ j = (j, noR 9) := by unfold commitJ; rw [if_pos h1]
  rw [e]; exact h.bad (show (9 : Int) ≠ 0 by decide)
 by_cases h2 : j.now.mt.length + j.now.dt.length + j.now.rev.length = 0
 ·have e : commitJ j = (j, noR 4) := by unfold commitJ; rw [if_neg h1, if_pos h2]
  rw [e]; exact h.bad (show (4 : Int) ≠ 0 by decide)
 by_cases h3 : 2147483646 <= j.now.seq
 ·have e : commitJ j = (j, noR 11) := by unfold commitJ; rw [if_neg h1, if_neg h2, if_pos h3]
  rw [e]; exact h.bad (show (11 : Int) ≠ 0 by decide)
 by_cases h4 : comE j.ring j.now ≠ 0
 ·have e : commitJ j = (j, noR (comE j.ring j.now)) := by unfold commitJ; rw [if_neg h1, if_neg h2, if_neg h3, if_pos h4]
  rw [e]; exact h.bad h4
 have e : commitJ j = ({ j with used := j.used ++ [(comR j.ring j.now).used - j.ring.used], ring := comR j.ring j.now, sealed := j.now, steps := comL j.ring j.now, work := 1, now := txn0 (j.now.seq + 1) }, ⟨0, j.now.seq, ⟨#[]⟩⟩) := by
  unfold commitJ; rw [if_neg h1, if_neg h2, if_neg h3, if_neg h4]
 have h4' : comE j.ring j.now = 0 := Decidable.byContradiction h4
 have hw0 : j.work = 0 := Decidable.byContradiction fun hh => h1 (.inl hh)
 rw [e] at hI hV ⊢
 dsimp only at hI hV ⊢
 refine ⟨?_, fun _ h8 => by omega⟩
 rw [seeO_else (by omega) (by omega) (by omega) (by omega)]
 refine ⟨hI, hV, rfl, ?_⟩
 obtain ⟨u1, u2, u3, u4⟩ := h.inv.up hw0 (.inl hd)
 have hsq := u2.seq
 cases h.w with
 | idle hd2 hw hB =>
  refine .sealing j.disk j.ring j.used 0 hd rfl (u1.congr rfl rfl) h4' hsq (show j.now.seq < 2147483646 by omega) (show j.now.seq + 1 = j.last + 2 by omega) (com_pos h4') rfl rfl fun b hb => ?_
  have o := hB b hb
  obtain ⟨A, B, C, p1, p2, p3, p4, p5, p6, p7⟩ := o.ex
  have hBn : B = [] := by
   cases B with
   | nil => rfl
   | cons x B => have := p3 x List.mem_cons_self; omega
  rw [hBn, List.nil_append] at p1
  refine ⟨⟨A, C, [], by rw [List.append_nil]; exact p1, p2, fun g hg => ?_, (fun g hg => nomatch hg), p5, fun _ => p7, rfl⟩, fun h0 => ?_, fun h0 => ?_, fun hr => ?_, fun hr => nomatch hr⟩
  ·have := p4 g hg
   exact ⟨this, (by show g.seq <= j.last + 1; omega)⟩
  ·left
   have hC : C = [] := by
    have := congrArg List.length ((show k.data b = [] from h0).symm.trans p1)
    simp only [List.length_nil, List.length_append] at this
    exact List.eq_nil_of_length_eq_zero (by omega)
   show getC j.now.dt b = none
   rw [p7, hC]; rfl
  ·obtain ⟨r1, r2, r3, r4⟩ := o.r h0
   exact ⟨r1, ⟨rfl, rfl⟩, r2, r4⟩
  ·exact o.f2 hr
 | sealing d r us n hd2 hw => rw [hw] at hw0; cases hw0
 | homing d n hd2 hw => rw [hw] at hw0; cases hw0
 | off hd2 => rw [hd] at hd2; cases hd2
 | rising d n hd2 => rw [hd] at hd2; cases hd2
theorem o_check {k : Ob} {j : Jn} {a : Aj} (hk : a.kind = 7) (hd : j.down = false) (h : OJ k j) : OJ (seeO k (checkJ j).1 a (noR (checkJ j).2)) (checkJ j).1 /\ okO k (checkJ j).1 a (noR (checkJ j).2) := by
 have hI := inv_check hd h.inv
 have hV := (vi_check h.vi).1
 by_cases h1 : j.work ≠ 0
 ·have e : checkJ j = (j, 9) := by unfold checkJ; rw [if_pos h1]
  rw [e]; exact h.bad (show (9 : Int) ≠ 0 by decide)
 by_cases h2 : j.done.length = 0
 ·have e : checkJ j = (j, 4) := by unfold checkJ; rw [if_neg h1, if_pos h2]
  rw [e]; exact h.bad (show (4 : Int) ≠ 0 by decide)
 have e : checkJ j = ({ j with after := giveR j.ring j.used.sum, steps := checkL (newestL j.done) j.ring.head (j.last + 1), pending := j.done.length, work := 2 }, 0) := by
  unfold checkJ; rw [if_neg h1, if_neg h2]
 have hw0 : j.work = 0 := Decidable.byContradiction h1
 rw [e] at hI hV ⊢
 dsimp only at hI hV ⊢
 refine ⟨?_, fun _ h8 => by omega⟩
 rw [seeO_else (by omega) (by omega) (by omega) (by omega)]
 refine ⟨hI, hV, rfl, ?_⟩
 obtain ⟨u1, u2, u3, u4⟩ := h.inv.up hw0 (.inl hd)
 have hb := u1.log.bounds
 have g := newestL_copies u1.log.goods
 cases h.w with
 | idle hd2 hw hB =>
  refine .homing j.disk 0 hd rfl (u1.congr rfl rfl) u2.seq rfl ?_ rfl rfl fun b hb => (hB b hb).congr rfl rfl rfl rfl rfl rfl rfl
  show 0 < (checkL (newestL j.done) j.ring.head (j.last + 1)).length
  rw [(check_zero g hb.1 hb.2.1).2]; simp
 | sealing d r us n hd2 hw => rw [hw] at hw0; cases hw0
 | homing d n hd2 hw => rw [hw] at hw0; cases hw0
 | off hd2 => rw [hd] at hd2; cases hd2
 | rising d n hd2 => rw [hd] at hd2; cases hd2
theorem o_chg {k : Ob} {j : Jn} {a : Aj} (hk : a.kind = 1 \/ a.kind = 2 \/ a.kind = 3 \/ a.kind = 4 \/ a.kind = 5) (hd : j.down = false) (h : OJ k j) : OJ (seeO k (changeJ j a).1 a (noR (changeJ j a).2)) (changeJ j a).1 /\ okO k (changeJ j a).1 a (noR (changeJ j a).2) := by
 have hI := inv_change a hd h.inv
 refine ⟨?_, fun _ h8 => by omega⟩
 have hg := h.inv.now_good hd
 have hV := (vi_change hg h.vi hk).1
 have c1 : (changeJ j a).1.last = j.last := by unfold changeJ; split <;> rfl
 have c2 : (changeJ j a).1.down = j.down := by unfold changeJ; split <;> rfl
 have c3 : (changeJ j a).1.work = j.work := by unfold changeJ; split <;> rfl
 have c4 : (changeJ j a).1.done = j.done := by unfold changeJ; split <;> rfl
 have c5 : (changeJ j a).1.disk = j.disk := by unfold changeJ; split <;> rfl
 have c6 : (changeJ j a).1.sealed = j.sealed := by unfold changeJ; split <;> rfl
 have c7 : (changeJ j a).1.steps = j.steps := by unfold changeJ; split <;> rfl
 have c8 : (changeJ j a).1.ring = j.ring := by unfold changeJ; split <;> rfl
 have c9 : (changeJ j a).1.used = j.used := by unfold changeJ; split <;> rfl
 have c10 : (changeJ j a).1.pending = j.pending := by unfold changeJ; split <;> rfl
 have c11 : (changeJ j a).1.now.seq = j.now.seq := by
  unfold changeJ
  split
  ·exact altT_seq j a
  ·rfl
 have s4 : (seeO k (changeJ j a).1 a (noR (changeJ j a).2)).down = (changeJ j a).1.down := by
  unfold seeO
  split
  ·rfl
  split
  ·rfl
  split
  ·rfl
  rw [if_neg (by omega)]
 have hbc := fun {d : Dsk} {n : Int} (hq : j.now.seq = n + 1) (hn : j.last <= n) (v : ∀ b, isBlk b = true -> OC k j d n b) => o_change hg h.vi hq hn v hk
 generalize seeO k (changeJ j a).1 a (noR (changeJ j a).2) = k2 at *
 generalize (changeJ j a).1 = j2 at *
 refine ⟨hI, hV, s4, ?_⟩
 cases h.w with
 | idle hd2 hw hB =>
  obtain ⟨u1, u2, u3, u4⟩ := h.inv.up hw (.inl hd)
  exact .idle (by rw [c2]; exact hd) (by rw [c3]; exact hw) (by rw [c5, c1]; exact hbc u2.seq (Int.le_refl _) hB)
 | sealing d r us n hd2 hw hu he hq hq2 hsq hn hdk hst hB =>
  exact .sealing d r us n (by rw [c2]; exact hd) (by rw [c3]; exact hw) (hu.congr c4 c1) (by rw [c6]; exact he) (by rw [c6, c1]; exact hq) (by rw [c6]; exact hq2) (by rw [c11, c1]; exact hsq) (by rw [c6]; exact hn) (by rw [c5, c6]; exact hdk) (by rw [c7, c6]; exact hst) (by rw [c1]; exact hbc (by omega) (by omega) hB)
 | homing d n hd2 hw hu hsq hp hn hdk hst hB =>
  exact .homing d n (by rw [c2]; exact hd) (by rw [c3]; exact hw) (by rw [c8, c9]; exact hu.congr c4 c1) (by rw [c11, c1]; exact hsq) (by rw [c10, c4]; exact hp) (by rw [c4, c8, c1]; exact hn) (by rw [c5, c4, c8, c1]; exact hdk) (by rw [c7, c4, c8, c1]; exact hst) (by rw [c1]; exact hbc hsq (Int.le_refl _) hB)
 | off hd2 => rw [hd] at hd2; cases hd2
 | rising d n hd2 => rw [hd] at hd2; cases hd2
theorem okO_quiet {k : Ob} {j : Jn} {a : Aj} {r : Rep} (h : k.down = false \/ j.down = true) : okO k j a r := fun _ _ h1 h2 => by
 rcases h with h | h
 ·rw [h1] at h; cases h
 ·rw [h2] at h; cases h
theorem o_step {k : Ob} {j : Jn} {a : Aj} (hk8 : a.kind = 8) (h : OJ k j) : OJ (seeO k (stepJ j).1 a (stepJ j).2) (stepJ j).1 /\ okO k (stepJ j).1 a (stepJ j).2 := by
 have hI := inv_step h.inv
 have hV : VI (stepJ j).1 := by
  cases hd : j.down with
  | true => exact vi_rise h.inv hd
  | false => exact (vi_step h.inv hd h.vi).1
 by_cases hw0 : j.work = 0
 ·have e : stepJ j = (j, noR 4) := by unfold stepJ; rw [if_pos hw0]
  rw [e]; exact h.bad (show (4 : Int) ≠ 0 by decide)
 obtain ⟨s, r, hs, he⟩ := inv_steps h.inv hw0
 have e : stepJ j = if r = [] then endJ { j with disk := stepD j.disk s, steps := [] } else ({ j with disk := stepD j.disk s, steps := r }, noR 0) := by
  unfold stepJ
  rw [if_neg hw0, hs]
  dsimp only
  rw [if_neg (by rw [he]; decide)]
 have hdn := h.dn
 cases h.w with
 | idle hd2 hw => exact absurd hw hw0
 | off hd2 hw => exact absurd hw hw0
 | sealing d rg us n hd hw hu hc hq hq2 hsq hn hdk hst hB =>
  obtain ⟨ho, hlen⟩ := com_ok hc
  obtain ⟨_, e2, e3⟩ := step_of hu.log.good hu.log.clean ho (by omega) hn hdk (hs.symm.trans hst)
  obtain ⟨l1, l2⟩ := last_rep hn e3
  by_cases hr0 : r = []
  ·have e' : stepJ j = ({ j with disk := stepD j.disk s, steps := [], work := 0, last := j.sealed.seq, done := j.done ++ [j.sealed], sealed := txn0 0 }, ⟨0, j.sealed.seq, ⟨#[]⟩⟩) := by
     rw [e, if_pos hr0]; unfold endJ; dsimp only; rw [if_pos hw]
   rw [e'] at hI hV ⊢
   dsimp only at hI hV ⊢
   rw [seeO_else (by omega) (by omega) (by omega) (fun _ => .inl (hdn.trans hd))]
   refine ⟨⟨hI, hV, rfl, .idle hd rfl fun b hb => ?_⟩, okO_quiet (.inl (hdn.trans hd))⟩
   show OC _ _ (stepD j.disk s) j.sealed.seq b
   rw [e2, l1 hr0, List.take_length]
   have o := hB b hb
   obtain ⟨A, B, C, p1, p2, p3, p4, p5, p6, p7⟩ := o.ex
   have hh1 := fun (s : ByteArray) (hs : getC j.sealed.dt b = some s) => com_home_end hc hu.log.good hu.log.clean hb hs
   have hh2 : getC j.sealed.dt b = none -> readD (runD d (comL rg j.sealed)) (25 + b) = readD d (25 + b) := fun hx => by
    have := com_home (k := (comL rg j.sealed).length) (b := b) hc hu.log.good hu.log.clean hb (by rw [hasB_get, hx]; rfl)
    rwa [List.take_length] at this
   refine ⟨⟨A ++ B, [], C, ?_, ?_, (fun g hg => nomatch hg), ?_, ?_, (fun _ => rfl), p7⟩, (fun _ => .inl rfl), fun h0 => ?_, (fun hr => nomatch hr), fun hr => ?_⟩
   ·show k.data b = _
    rw [p1]; simp
   ·intro g hg
    show g.seq <= j.sealed.seq
    rcases List.mem_append.1 hg with hg | hg
    ·have := p2 g hg; omega
    ·have := p3 g hg; omega
   ·intro g hg
    show g.seq = j.sealed.seq + 1
    have := p4 g hg; omega
   ·intro g hg
    have h0 : k.data b ≠ [] := by
     intro h0
     rw [h0] at p1
     have := congrArg List.length p1
     simp only [List.length_nil, List.length_append] at this
     rw [List.eq_nil_of_length_eq_zero (l := A) (by omega), List.eq_nil_of_length_eq_zero (l := B) (by omega)] at hg
     cases hg
    have h6 := p6 h0
    by_cases hBn : B = []
    ·rw [hBn] at h6 hg
     rw [List.append_nil] at hg
     rw [hh2 h6]
     exact p5 g hg
    ·rw [last_app hBn] at hg
     unfold lastT2 at h6
     rw [hg] at h6
     exact hh1 _ h6
   ·obtain ⟨r1, r2, ⟨r3, r3'⟩, r4⟩ := o.r h0
    refine ⟨r1, r2, ⟨rfl, rfl⟩, ?_⟩
    show newestB (j.done ++ [j.sealed]) b = none
    rw [newestB_snoc, turnT_else r3 r3']; exact r4
   ·show j.sealed.seq < j.freed b
    have := o.f2 hr
    omega
  ·have e' : stepJ j = ({ j with disk := stepD j.disk s, steps := r }, noR 0) := by rw [e, if_neg hr0]
   rw [e'] at hI hV ⊢
   dsimp only at hI hV ⊢
   rw [seeO_else (by omega) (by omega) (by omega) (fun _ => .inl (hdn.trans hd))]
   exact ⟨⟨hI, hV, rfl, .sealing d rg us (n + 1) hd hw (hu.congr rfl rfl) hc hq hq2 hsq (l2 hr0) e2 e3 fun b hb => (hB b hb).congr rfl rfl rfl rfl rfl rfl rfl⟩, okO_quiet (.inl (hdn.trans hd))⟩
 | homing d n hd hw hu hsq hp hn hdk hst hB =>
  have hb := hu.log.bounds
  obtain ⟨ho, hlen⟩ := chk_ok (newestL_copies hu.log.goods) hb.1 hb.2.1
  obtain ⟨_, e2, e3⟩ := step_of hu.log.good hu.log.clean ho (by omega) hn hdk (hs.symm.trans hst)
  obtain ⟨l1, l2⟩ := last_rep hn e3
  by_cases hr0 : r = []
  ·have e' : stepJ j = ({ j with disk := stepD j.disk s, steps := [], work := 0, ring := j.after, done := j.done.drop j.pending.toNat, used := j.used.drop j.pending.toNat }, noR 0) := by
     rw [e, if_pos hr0]; unfold endJ; dsimp only; rw [if_neg (by omega), if_pos hw]
   rw [e'] at hI hV ⊢
   dsimp only at hI hV ⊢
   rw [seeO_else (by omega) (by omega) (by omega) (fun _ => .inl (hdn.trans hd))]
   refine ⟨⟨hI, hV, rfl, .idle hd rfl fun b hb2 => ?_⟩, okO_quiet (.inl (hdn.trans hd))⟩
   show OC _ _ (stepD j.disk s) j.last b
   rw [e2, l1 hr0, List.take_length]
   have o := hB b hb2
   obtain ⟨A, B, C, p1, p2, p3, p4, p5, p6, p7⟩ := o.ex
   refine ⟨⟨A, B, C, p1, p2, p3, p4, fun g hg => ?_, p6, p7⟩, o.s0, fun h0 => ?_, o.f, o.f2⟩
   ·have h0 : k.data b ≠ [] := by
      intro h0
      rw [h0] at p1
      have := congrArg List.length p1
      simp only [List.length_nil, List.length_append] at this
      rw [List.eq_nil_of_length_eq_zero (l := A) (by omega)] at hg
      cases hg
    have hno := (o.r h0).2.2.2
    have := chk_home (k := (checkL (newestL j.done) j.ring.head (j.last + 1)).length) hu.log.goods hb.1 hb.2.1 hu.log.good hu.log.clean hb2 hno
    rw [List.take_length] at this
    rw [this]
    exact p5 g hg
   ·obtain ⟨r1, r2, r3, r4⟩ := o.r h0
    refine ⟨r1, r2, r3, ?_⟩
    show newestB (j.done.drop j.pending.toNat) b = none
    rw [hp, Int.toNat_natCast, List.drop_length]; rfl
  ·have e' : stepJ j = ({ j with disk := stepD j.disk s, steps := r }, noR 0) := by rw [e, if_neg hr0]
   rw [e'] at hI hV ⊢
   dsimp only at hI hV ⊢
   rw [seeO_else (by omega) (by omega) (by omega) (fun _ => .inl (hdn.trans hd))]
   exact ⟨⟨hI, hV, rfl, .homing d (n + 1) hd hw (hu.congr rfl rfl) hsq hp (l2 hr0) e2 e3 fun b hb => (hB b hb).congr rfl rfl rfl rfl rfl rfl rfl⟩, okO_quiet (.inl (hdn.trans hd))⟩
 | rising d n hd hw hf hu hn hdk hst =>
  obtain ⟨txs, q, ah, u, hL, h5⟩ := hu.ex
  obtain ⟨b1, b2⟩ := scan_bounds hL.scan
  obtain ⟨ho, hlen⟩ := chk_ok (newestL_copies hL.goods2) b1 b2
  obtain ⟨_, e2, e3⟩ := step_of hL.good hL.clean ho (by omega) hn hdk (hs.symm.trans hst)
  obtain ⟨l1, l2⟩ := last_rep hn e3
  by_cases hr0 : r = []
  ·have e' : stepJ j = (riseJ { j with disk := stepD j.disk s, steps := [], work := 0 }, noR 0) := by
     rw [e, if_pos hr0]; unfold endJ; dsimp only; rw [if_neg (by omega), if_neg (by omega), if_pos hw]
   have hdT : stepD j.disk s = runD d (checkL (newestL txs) ah q) := by
    rw [e2, l1 hr0, List.take_length, hL.found]
    dsimp only
    rw [newestL_log]
   have hT := ord_end hL h5
   rw [<- hdT] at hT
   rw [e'] at hI hV ⊢
   dsimp only at hI hV ⊢
   have hlast : (riseJ { j with disk := stepD j.disk s, steps := [], work := 0 }).last = q - 1 := by
    show j.found.next - 1 = q - 1
    rw [hf, hL.found]
   have es : seeO k (riseJ { j with disk := stepD j.disk s, steps := [], work := 0 }) a (noR 0) = ⟨fun _ => [], false⟩ := by
    unfold seeO
    rw [if_neg (fun hh => hh rfl), if_neg (by omega), if_neg (by omega), if_pos ⟨hk8, hdn.trans hd, rfl⟩]
    rfl
   rw [es]
   refine ⟨⟨hI, hV, rfl, .idle rfl rfl fun b hb => OC.nil0 (q := j.found.next) (p := 0) rfl rfl rfl⟩, fun _ _ _ _ b hb => ?_⟩
   rw [hlast]
   exact hT b hb
  ·have e' : stepJ j = ({ j with disk := stepD j.disk s, steps := r }, noR 0) := by rw [e, if_neg hr0]
   rw [e'] at hI hV ⊢
   dsimp only at hI hV ⊢
   rw [seeO_else (by omega) (by omega) (by omega) (fun _ => .inr (show ({ j with disk := stepD j.disk s, steps := r } : Jn).down = true from hd))]
   exact ⟨⟨hI, hV, rfl, .rising d (n + 1) hd hw hf (hu.congr rfl) (l2 hr0) e2 e3⟩, okO_quiet (.inr hd)⟩
theorem ord_do {k : Ob} {j : Jn} (a : Aj) (h : OJ k j) : OJ (seeO k (doJ j a).1 a (doJ j a).2) (doJ j a).1 /\ okO k (doJ j a).1 a (doJ j a).2 := by
 by_cases c0 : 400 <= j.acts
 ·have e : doJ j a = (j, noR 11) := by unfold doJ; rw [if_pos c0]
  rw [e]; exact h.bad (show (11 : Int) ≠ 0 by decide)
 have hA := h.acts (j.acts + 1)
 by_cases c1 : a.kind < 1 \/ 11 < a.kind
 ·have e : doJ j a = ({ j with acts := j.acts + 1 }, noR 3) := by unfold doJ; rw [if_neg c0, if_pos c1]
  rw [e]; exact hA.bad (show (3 : Int) ≠ 0 by decide)
 by_cases hk10 : a.kind = 10
 ·have e : doJ j a = noJ (crashJ { j with acts := j.acts + 1 } a.n) := by unfold doJ; rw [if_neg c0, if_neg c1, if_pos hk10]
  rw [e]; exact o_crash hk10 hA
 by_cases hk11 : a.kind = 11
 ·have e : doJ j a = noJ (beginJ { j with acts := j.acts + 1 }) := by unfold doJ; rw [if_neg c0, if_neg c1, if_neg hk10, if_pos hk11]
  rw [e]; exact o_begin hk11 hA
 by_cases hk8 : a.kind = 8
 ·have e : doJ j a = stepJ { j with acts := j.acts + 1 } := by unfold doJ; rw [if_neg c0, if_neg c1, if_neg hk10, if_neg hk11, if_pos hk8]
  rw [e]; exact o_step hk8 hA
 by_cases hd1 : j.down = true
 ·have e : doJ j a = ({ j with acts := j.acts + 1 }, noR 10) := by unfold doJ; rw [if_neg c0, if_neg c1, if_neg hk10, if_neg hk11, if_neg hk8, if_pos hd1]
  rw [e]; exact hA.bad (show (10 : Int) ≠ 0 by decide)
 have hd : j.down = false := by simpa using hd1
 by_cases hk6 : a.kind = 6
 ·have e : doJ j a = commitJ { j with acts := j.acts + 1 } := by unfold doJ; rw [if_neg c0, if_neg c1, if_neg hk10, if_neg hk11, if_neg hk8, if_neg hd1, if_pos hk6]
  rw [e]; exact o_commit hk6 (by exact hd) hA
 by_cases hk7 : a.kind = 7
 ·have e : doJ j a = noJ (checkJ { j with acts := j.acts + 1 }) := by unfold doJ; rw [if_neg c0, if_neg c1, if_neg hk10, if_neg hk11, if_neg hk8, if_neg hd1, if_neg hk6, if_pos hk7]
  rw [e]; exact o_check hk7 (by exact hd) hA
 by_cases hk9 : a.kind = 9
 ·have e : doJ j a = ({ j with acts := j.acts + 1 }, readJ { j with acts := j.acts + 1 } a.b) := by unfold doJ; rw [if_neg c0, if_neg c1, if_neg hk10, if_neg hk11, if_neg hk8, if_neg hd1, if_neg hk6, if_neg hk7, if_pos hk9]
  rw [e]
  refine ⟨?_, fun _ h8 => by omega⟩
  rw [seeO_else (by omega) (by omega) (by omega) (by omega)]
  exact ⟨hA.inv, hA.vi, rfl, hA.w.same _ (j.acts + 1)⟩
 ·have e : doJ j a = noJ (changeJ { j with acts := j.acts + 1 } a) := by unfold doJ; rw [if_neg c0, if_neg c1, if_neg hk10, if_neg hk11, if_neg hk8, if_neg hd1, if_neg hk6, if_neg hk7, if_neg hk9]
  rw [e]; exact o_chg (by omega) (by exact hd) hA
theorem ord_new : OJ ob0 newJ := ⟨inv_new, vi_zero (q := 1) (p := 0) rfl rfl rfl, rfl, .idle rfl rfl fun b hb => OC.nil0 (q := 1) (p := 0) rfl rfl rfl⟩
def gotC (g : Got) : List Value := [.int .i64 g.seq, .string g.text]
theorem gotC_flat : Flat gotC 2 := ⟨fun _ => rfl, fun _ u hu => by simp [gotC] at hu; rcases hu with rfl | rfl <;> rfl, by decide⟩
def RowsM (e : TypeId) : List Value -> List (List Got) -> List Ent -> Prop
 | [], [], M => M = []
 | v :: vs, l :: ls, M => ∃ M1 M2, M = M1 ++ M2 /\ OwnM gotC e 2 v l M1 /\ RowsM e vs ls M2
 | _, _, _ => False
theorem RowsM.len {e : TypeId} : ∀ {vs : List Value} {ds : List (List Got)} {M : List Ent}, RowsM e vs ds M -> vs.length = ds.length
 | [], [], _, _ => rfl
 | v :: vs, l :: ls, M, h => by
  obtain ⟨M1, M2, _, _, h2⟩ := h
  rw [List.length_cons, List.length_cons, h2.len]
 | [], _ :: _, _, h => h.elim
 | _ :: _, [], _, h => h.elim
theorem RowsM.at {e : TypeId} : ∀ {vs : List Value} {ds : List (List Got)} {M : List Ent} {n : Nat}, RowsM e vs ds M -> n < ds.length ->
    ∃ MA Mn MB v l, M = MA ++ (Mn ++ MB) /\ nth vs n = some v /\ ds[n]? = some l /\ OwnM gotC e 2 v l Mn /\ ∀ v' l' M', OwnM gotC e 2 v' l' M' -> RowsM e (upd n [v'] vs) (ds.set n l') (MA ++ (M' ++ MB))
 | [], [], _, _, _, h => absurd h (Nat.not_lt_zero _)
 | v :: vs, l :: ls, M, 0, h, _ => by
  obtain ⟨M1, M2, rfl, h1, h2⟩ := h
  refine ⟨[], M1, M2, v, l, rfl, rfl, rfl, h1, fun v' l' M' h3 => ?_⟩
  show RowsM e (v' :: upd 0 [] vs) (l' :: ls) (M' ++ M2)
  have e0 : upd 0 [] vs = vs := by cases vs <;> rfl
  rw [e0]
  exact ⟨M', M2, rfl, h3, h2⟩
 | v :: vs, l :: ls, M, n + 1, h, hn => by
  obtain ⟨M1, M2, rfl, h1, h2⟩ := h
  obtain ⟨MA, Mn, MB, v2, l2, rfl, g1, g2, g3, g4⟩ := h2.at (n := n) (Nat.lt_of_succ_lt_succ hn)
  refine ⟨M1 ++ MA, Mn, MB, v2, l2, by rw [List.append_assoc], g1, g2, g3, fun v' l' M' h3 => ?_⟩
  show RowsM e (v :: upd n [v'] vs) (l :: ls.set n l') _
  exact ⟨M1, _, by rw [List.append_assoc], h1, g4 v' l' M' h3⟩
 | [], _ :: _, _, _, h, _ => h.elim
 | _ :: _, [], _, _, h, _ => h.elim
def dsOf (f : Int -> List Got) : List (List Got) := (List.range 12).map fun (i : Nat) => f i
theorem dsOf_len (f : Int -> List Got) : (dsOf f).length = 12 := by simp [dsOf]
theorem dsOf_get (f : Int -> List Got) {n : Nat} (h : n < 12) : (dsOf f)[n]? = some (f n) := by simp [dsOf, h]
theorem dsOf_set (f : Int -> List Got) {n : Nat} (h : n < 12) (l : List Got) : (dsOf f).set n l = dsOf (setL f n l) := by
 apply List.ext_getElem?
 intro i
 by_cases hi : i < 12
 ·rw [List.getElem?_set, dsOf_len]
  by_cases e : n = i
  ·subst e
   rw [if_pos rfl, if_pos h, dsOf_get _ h, setL_self]
  ·rw [if_neg e, dsOf_get _ hi, dsOf_get _ hi, setL_ne (by omega)]
 ·rw [List.getElem?_eq_none (by rw [List.length_set, dsOf_len]; omega), List.getElem?_eq_none (by rw [dsOf_len]; omega)]
theorem rows_nil (e : TypeId) : ∀ (n : Nat), RowsM e (List.replicate n (.slice none 0 0)) (List.replicate n []) []
 | 0 => rfl
 | n + 1 => ⟨[], [], rfl, OwnM.nil gotC e 2, rows_nil e n⟩
def cutF (f : Int -> List Got) (n : Nat) : Int -> List Got := fun x => if x < (n : Int) then [] else f x
theorem dsOf_cut0 (f : Int -> List Got) : dsOf (cutF f 0) = dsOf f := by
 unfold dsOf
 apply List.map_congr_left
 intro i _
 unfold cutF
 rw [if_neg (by omega)]
theorem dsOf_cut12 (f : Int -> List Got) : dsOf (cutF f 12) = dsOf (fun _ => []) := by
 unfold dsOf
 apply List.map_congr_left
 intro i hi
 unfold cutF
 rw [if_pos (by have := List.mem_range.1 hi; omega)]
theorem cutF_at (f : Int -> List Got) (n : Nat) : cutF f n n = f n := by unfold cutF; rw [if_neg (by omega)]
theorem cutF_set (f : Int -> List Got) (n : Nat) : dsOf (setL (cutF f n) n []) = dsOf (cutF f (n + 1)) := by
 unfold dsOf
 apply List.map_congr_left
 intro i _
 unfold setL cutF
 by_cases h : (i : Int) = n
 ·rw [if_pos h, if_pos (by omega)]
 ·rw [if_neg h]
  by_cases h2 : (i : Int) < n
  ·rw [if_pos h2, if_pos (by omega)]
  ·rw [if_neg h2, if_neg (by omega)]
def ordI (l : List Got) (last : Int) (s : ByteArray) (q : Nat) (must may : Bool) : Prop :=
 (must = false /\ (∀ x ∈ l.drop q, last < x.seq) /\ may = (l.drop q).any fun g => g.text.toList == s.toList) \/ (must = true /\ may = true)
theorem ordI_start (l : List Got) (last : Int) (s : ByteArray) : ordI l last s l.length false false := by
 refine .inl ⟨rfl, ?_, ?_⟩
 ·rw [List.drop_length]; intro x hx; cases hx
 ·rw [List.drop_length]; rfl
theorem ordI_end {l : List Got} {last : Int} {s : ByteArray} {q : Nat} {must may : Bool} (h : ordI l last s q must may) : must = true -> may = true := by
 rcases h with ⟨h, _⟩ | ⟨_, h⟩
 ·intro h2; rw [h] at h2; cases h2
 ·exact fun _ => h
theorem ordI_step {l : List Got} {last : Int} {s : ByteArray} {p : Nat} {may : Bool} (ho : ordrOk l last s) (hp : p < l.length) (h : ordI l last s (p + 1) false may) :
    ordI l last s p (decide (l[p].seq <= last)) (may || (l[p].text.toList == s.toList)) := by
 have hd : l.drop p = l[p] :: l.drop (p + 1) := List.drop_eq_getElem_cons hp
 rcases h with ⟨_, h1, h2⟩ | ⟨h, _⟩
 ·by_cases hle : l[p].seq <= last
  ·right
   refine ⟨decide_eq_true hle, ?_⟩
   have := ho (l.take p) l[p] (l.drop (p + 1)) (by rw [<- hd, List.take_append_drop]) hle h1
   rcases this with e | ⟨x, hx, e⟩
   ·rw [e]; simp
   ·rw [h2]
    have : (l.drop (p + 1)).any (fun g => g.text.toList == s.toList) = true := List.any_eq_true.2 ⟨x, hx, by rw [e]; simp⟩
    rw [this]; rfl
  ·left
   refine ⟨decide_eq_false hle, fun x hx => ?_, ?_⟩
   ·rw [hd] at hx
    rcases List.mem_cons.1 hx with rfl | hx
    ·omega
    ·exact h1 x hx
   ·rw [hd, List.any_cons, h2, Bool.or_comm]
 ·cases h
theorem blk_of {j : Jn} {a : Aj} (hk : a.kind = 2 \/ a.kind = 3 \/ a.kind = 4) (hc : (doJ j a).2.code = 0) : isBlk a.b = true := by
 by_cases c0 : 400 <= j.acts
 ·have e : doJ j a = (j, noR 11) := by unfold doJ; rw [if_pos c0]
  rw [e] at hc; exact absurd hc (show (11 : Int) ≠ 0 by decide)
 by_cases hd1 : j.down = true
 ·have e : doJ j a = ({ j with acts := j.acts + 1 }, noR 10) := by unfold doJ; rw [if_neg c0, if_neg (by omega), if_neg (by omega), if_neg (by omega), if_neg (by omega), if_pos hd1]
  rw [e] at hc; exact absurd hc (show (10 : Int) ≠ 0 by decide)
 have e : doJ j a = noJ (changeJ { j with acts := j.acts + 1 } a) := by unfold doJ; rw [if_neg c0, if_neg (by omega), if_neg (by omega), if_neg (by omega), if_neg (by omega), if_neg hd1, if_neg (by omega), if_neg (by omega), if_neg (by omega)]
 rw [e] at hc
 generalize hJ : ({ j with acts := j.acts + 1 } : Jn) = J at hc
 have hc2 : (changeJ J a).2 = 0 := hc
 have he : altE J a = 0 := by
  unfold changeJ at hc2
  split at hc2
  ·assumption
  ·exact hc2
 rcases hk with hk | hk | hk
 ·have hz : orE (chgE J.now a.h a.b (fit a.text)) (roleJ J a.b = 2) 8 = 0 := by have := he; unfold altE at this; rw [if_neg (by omega), if_neg (by omega), if_pos hk] at this; exact this
  exact (may_zero (chg_zero (orE_zero (by decide) hz).1).1).2.2.2
 ·have hz : orE (orE (filE J.now a.h a.b (fit a.text)) (roleJ J a.b = 1) 8) (J.last < J.freed a.b) 9 = 0 := by have := he; unfold altE at this; rw [if_neg (by omega), if_neg (by omega), if_neg (by omega), if_pos hk] at this; exact this
  exact (may_zero (fil_zero (orE_zero (by decide) (orE_zero (by decide) hz).1).1).1).2.2.2
 ·have hz : orE (rvkE J.now a.h a.b) (roleJ J a.b = 0) 8 = 0 := by have := he; unfold altE at this; rw [if_neg (by omega), if_neg (by omega), if_neg (by omega), if_neg (by omega), if_pos hk] at this; exact this
  exact (may_zero (rvk_zero (orE_zero (by decide) hz).1)).2.2.2
theorem seeO_len {k : Ob} {j : Jn} {a : Aj} {r : Rep} {n : Nat} (h : ∀ b, (k.data b).length <= n) : ∀ b, ((seeO k j a r).data b).length <= n + 1 := by
 intro b
 have hb := h b
 unfold seeO
 split
 ·exact Nat.le_succ_of_le hb
 split
 ·show (setL k.data a.b [] b).length <= _
  unfold setL; split
  ·exact Nat.zero_le _
  ·exact Nat.le_succ_of_le hb
 split
 ·show (setL k.data a.b _ b).length <= _
  unfold setL; split
  ·rw [List.length_append]; have := h a.b; simp; omega
  ·exact Nat.le_succ_of_le hb
 split
 ·exact Nat.zero_le _
 ·exact Nat.le_succ_of_le hb
theorem perm5J {α : Type} (a b c d e : α) (M L : List α) : (a :: b :: c :: d :: e :: (M ++ L)).Perm (M ++ (a :: b :: c :: d :: e :: L)) := List.perm_append_comm_assoc [a, b, c, d, e] M L
theorem perm4Jo {α : Type} (a b c d : α) (M L : List α) : (a :: b :: c :: d :: (M ++ L)).Perm (M ++ (a :: b :: c :: d :: L)) := List.perm_append_comm_assoc [a, b, c, d] M L
theorem perm5N {α : Type} (a b c d e : α) (N M T : List α) : (a :: b :: c :: d :: e :: (N ++ (M ++ T))).Perm (M ++ (a :: b :: c :: d :: e :: (N ++ T))) := ((List.perm_append_comm_assoc N M T).append_left [a, b, c, d, e]).trans (List.perm_append_comm_assoc [a, b, c, d, e] M (N ++ T))
theorem permRow {α : Type} (M A N B L : List α) : (M ++ ((A ++ (N ++ B)) ++ L)).Perm (N ++ (M ++ (A ++ (B ++ L)))) := by
 have h1 : (A ++ (N ++ B)) ++ L = A ++ (N ++ (B ++ L)) := by simp
 rw [h1]
 exact ((List.perm_append_comm_assoc A N (B ++ L)).append_left M).trans (List.perm_append_comm_assoc M N (A ++ (B ++ L)))
theorem subRow {α : Type} {a b c d e : α} {M A N B L : List α} : (a :: b :: c :: d :: e :: (M ++ ((A ++ ([] ++ B)) ++ L))).Sublist (a :: b :: c :: d :: e :: (M ++ ((A ++ (N ++ B)) ++ L))) :=
 .cons_cons _ (.cons_cons _ (.cons_cons _ (.cons_cons _ (.cons_cons _ ((List.Sublist.refl M).append (((List.Sublist.refl A).append ((List.nil_sublist N).append (List.Sublist.refl B))).append (List.Sublist.refl L)))))))
theorem perm5Row {α : Type} (a b c d e : α) (M A N B L : List α) : (a :: b :: c :: d :: e :: (M ++ ((A ++ (N ++ B)) ++ L))).Perm (a :: b :: c :: d :: e :: (N ++ (M ++ (A ++ (B ++ L))))) := (permRow M A N B L).append_left [a, b, c, d, e]
section
variable {α : Type} {f : α -> List Value} {base : Nat} {e : TypeId} {c : Nat} {w w' : World} {v : Value} {l : List α}
theorem flat_take (hf : ∀ x, (f x).length = c) : ∀ (l : List α) (i : Nat), i <= l.length -> (l.flatMap f).take (i * c) = (l.take i).flatMap f
 | l, 0, _ => by simp
 | [], i + 1, h => by simp at h
 | x :: l, i + 1, h => by
  rw [List.flatMap_cons, List.take_succ_cons, List.flatMap_cons, List.take_append, List.take_of_length_le (by rw [hf, Nat.succ_mul]; omega), hf, show (i + 1) * c - c = i * c by rw [Nat.succ_mul]; omega, flat_take hf l i (by simpa using h)]
theorem flat_dropLen (hf : ∀ x, (f x).length = c) (l : List α) (i : Nat) : ((l.drop i).flatMap f).length = (l.length - i) * c := by
 rw [flat_len hf, List.length_drop]
theorem mul_split {n i c : Nat} (h : i <= n) : i * c + (n - i) * c = n * c := by rw [<- Nat.add_mul]; congr 1; omega
theorem ins_room (hf : ∀ x, (f x).length = c) (L : List Value) (l : List α) (i cap : Nat) (x : α) (hL : L.length = cap * c) (ht : L.take (l.length * c) = l.flatMap f) (hi : i <= l.length) (hc : l.length + 1 <= cap) {L1 L2 : List Value}
    (h1 : L1 = L.take ((i + 1) * c) ++ (l.drop i).flatMap f ++ L.drop ((i + 1) * c + ((l.drop i).flatMap f).length)) (h2 : L2 = L1.take (i * c) ++ f x ++ L1.drop (i * c + (f x).length)) :
    L2.length = cap * c /\ L2.take ((l.length + 1) * c) = (l.take i ++ x :: l.drop i).flatMap f := by
 have hx := hf x
 have hd := flat_dropLen hf l i
 have hm := mul_split (c := c) hi
 have hm2 : (l.length + 1) * c <= cap * c := Nat.mul_le_mul_right _ hc
 rw [Nat.succ_mul] at hm2
 have hsucc : (i + 1) * c = i * c + (f x).length := by rw [hx, Nat.succ_mul]
 rw [hsucc] at h1
 subst h1
 rw [seg2 L (i * c) (f x) ((l.drop i).flatMap f) (by rw [hx, hd, hL]; omega)] at h2
 subst h2
 have h3 : L.take (i * c) = (l.take i).flatMap f := by
  rw [<- flat_take hf l i hi, <- ht, List.take_take, Nat.min_eq_left (by rw [<- hm]; omega)]
 have h4 := flat_len hf (l.take i)
 rw [List.length_take, Nat.min_eq_left hi] at h4
 rw [h3]
 refine ⟨?_, ?_⟩
 ·simp only [List.length_append, List.length_drop, h4, hx, hd, hL]
  omega
 ·rw [List.flatMap_append, List.flatMap_cons, <- List.append_assoc]
  have h5 : ((l.take i).flatMap f ++ f x ++ (l.drop i).flatMap f).length = (l.length + 1) * c := by
   simp only [List.length_append, h4, hx, hd, Nat.succ_mul]
   omega
  rw [<- h5]
  exact List.take_left
theorem ins_grow (hf : ∀ x, (f x).length = c) (Z : List Value) (l : List α) (i cap : Nat) (x : α) (hZ : Z.length = (cap - i) * c) (hi : i <= l.length) (hc : l.length + 1 <= cap) {L L1 L2 : List Value} (h0 : L = (l.take i).flatMap f ++ Z)
    (h1 : L1 = L.take (i * c) ++ f x ++ L.drop (i * c + (f x).length)) (h2 : L2 = L1.take ((i + 1) * c) ++ (l.drop i).flatMap f ++ L1.drop ((i + 1) * c + ((l.drop i).flatMap f).length)) :
    L2.length = cap * c /\ L2.take ((l.length + 1) * c) = (l.take i ++ x :: l.drop i).flatMap f := by
 have hx := hf x
 have hd := flat_dropLen hf l i
 have hm := mul_split (c := c) hi
 have hm2 : (l.length + 1) * c <= cap * c := Nat.mul_le_mul_right _ hc
 rw [Nat.succ_mul] at hm2
 have hm3 := mul_split (c := c) (n := cap) (i := i) (by omega)
 have hsucc : (i + 1) * c = i * c + (f x).length := by rw [hx, Nat.succ_mul]
 have h4 := flat_len hf (l.take i)
 rw [List.length_take, Nat.min_eq_left hi] at h4
 have hL : L.length = cap * c := by rw [h0, List.length_append, h4, hZ]; exact hm3
 rw [hsucc] at h2
 subst h1
 rw [seg3 L (i * c) (f x) ((l.drop i).flatMap f) (by rw [hx, hd, hL]; omega)] at h2
 subst h2
 have h3 : L.take (i * c) = (l.take i).flatMap f := by
  rw [h0, <- h4]
  exact List.take_left
 rw [h3]
 refine ⟨?_, ?_⟩
 ·simp only [List.length_append, List.length_drop, h4, hx, hd, hL]
  omega
 ·rw [List.flatMap_append, List.flatMap_cons, <- List.append_assoc]
  have h5 : ((l.take i).flatMap f ++ f x ++ (l.drop i).flatMap f).length = (l.length + 1) * c := by
   simp only [List.length_append, h4, hx, hd, Nat.succ_mul]
   omega
  rw [<- h5]
  exact List.take_left
theorem row_from (hf : ∀ x, (f x).length = c) {g : Nat} {cur : Array Value} (hk : Blk w g cur e) (ht : cur.toList.take (l.length * c) = l.flatMap f) {i : Nat} (hi : i <= l.length) :
    ∀ j u, ((l.drop i).flatMap f)[j]? = some u -> w.cell? ⟨g, i * c + j, none⟩ = some u := by
 intro j u hj
 have hd := flat_dropLen hf l i
 have hm := mul_split (c := c) hi
 have hlt : j < ((l.drop i).flatMap f).length := (List.getElem?_eq_some_iff.1 hj).1
 have h4 := flat_len hf (l.take i)
 rw [List.length_take, Nat.min_eq_left hi] at h4
 have h5 : (l.flatMap f)[i * c + j]? = some u := by
  conv => lhs; rw [<- List.take_append_drop i l]
  rw [List.flatMap_append, List.getElem?_append_right (by omega), h4, Nat.add_sub_cancel_left]
  exact hj
 rw [<- ht, List.getElem?_take, if_pos (by omega)] at h5
 rw [hk.cell, <- h5]
 simp
theorem Own.cut {g cap : Nat} (hF : Flat f c) (h : Own f base e c w (.slice (some ⟨g, 0, none⟩) l.length cap) l) {i : Nat} (hi : i <= l.length) (zs : List Value) (hz : i * c + zs.length <= l.length * c) :
    Own f base e c (w.setCells g (i * c) zs) (.slice (some ⟨g, 0, none⟩) i cap) (l.take i) := by
 obtain ⟨h1, h2⟩ := h
 rcases h2 with ⟨h3, _⟩ | ⟨g', cap', cur, hv, hb, hg, hn, hc, hs, ht⟩
 ·exact absurd h3 (by simp)
 ·simp only [Value.slice.injEq, Option.some.injEq, Addr.mk.injEq, true_and, and_true] at hv
  obtain ⟨rfl, rfl⟩ := hv
  have hle : l.length * c <= cap * c := Nat.mul_le_mul_right _ hn
  have hk := Blk.sets (t := e) zs (i * c) w cur hg (by rw [hs]; omega)
  have hil : (l.take i).length = i := by rw [List.length_take]; omega
  have hm := mul_split (c := c) hi
  have := Own.ofRow (l := l.take i) (cap := cap) hF hb hk (by rw [hil]; omega) hc (by
   simp only [List.size_toArray, List.length_append, List.length_take, List.length_drop, Array.length_toList, hs]
   omega) (by
   rw [hil]
   show ((cur.toList.take (i * c) ++ zs) ++ _).take (i * c) = _
   rw [List.append_assoc, List.take_append_of_le_length (by rw [List.length_take, Array.length_toList, hs]; omega), List.take_take, Nat.min_self, <- flat_take hF.len l i hi, <- ht, List.take_take, Nat.min_eq_left (by omega)])
  rw [hil] at this
  exact this
def KeptI (p : α -> Bool) (l : List α) (j i : Nat) (lk : List α) : Prop :=
 lk.length = l.length /\ i = ((l.take j).filter p).length /\ lk.take i = (l.take j).filter p /\ lk.drop j = l.drop j
theorem KeptI.le {p : α -> Bool} {j i : Nat} {lk : List α} (h : KeptI p l j i lk) : i <= j := by
 rw [h.2.1]
 exact Nat.le_trans (List.length_filter_le _ _) (by rw [List.length_take]; exact Nat.min_le_left _ _)
theorem KeptI.get {p : α -> Bool} {j i : Nat} {lk : List α} (h : KeptI p l j i lk) (hj : j < l.length) : ∃ hk : j < lk.length, lk[j] = l[j] := by
 have hk : j < lk.length := by rw [h.1]; exact hj
 refine ⟨hk, ?_⟩
 have h1 := congrArg (fun x => x[0]?) h.2.2.2
 simp only [List.getElem?_drop, Nat.add_zero] at h1
 rw [List.getElem?_eq_getElem hk, List.getElem?_eq_getElem hj, Option.some.injEq] at h1
 exact h1
theorem KeptI.keep {p : α -> Bool} {j i : Nat} {lk : List α} (h : KeptI p l j i lk) (hj : j < l.length) (hp : p l[j] = true) : KeptI p l (j + 1) (i + 1) (lk.set i l[j]) := by
 have hij := h.le
 obtain ⟨h1, h2, h3, h4⟩ := h
 have h5 : (l.take (j + 1)).filter p = (l.take j).filter p ++ [l[j]] := by rw [List.take_succ_eq_append_getElem hj, List.filter_append, List.filter_cons, if_pos hp, List.filter_nil]
 refine ⟨by simpa using h1, by rw [h5, List.length_append, <- h2]; rfl, ?_, ?_⟩
 ·rw [h5, <- h3, List.take_succ_eq_append_getElem (by rw [List.length_set, h1]; omega), List.getElem_set_self]
  congr 1
  rw [List.take_set_of_le (by omega)]
 ·rw [List.drop_set_of_lt (by omega), <- List.drop_drop, h4, List.drop_drop]
theorem KeptI.skip {p : α -> Bool} {j i : Nat} {lk : List α} (h : KeptI p l j i lk) (hj : j < l.length) (hp : p l[j] = false) : KeptI p l (j + 1) i lk := by
 obtain ⟨h1, h2, h3, h4⟩ := h
 have h5 : (l.take (j + 1)).filter p = (l.take j).filter p := by rw [List.take_succ_eq_append_getElem hj, List.filter_append, List.filter_cons, if_neg (by rw [hp]; simp), List.filter_nil, List.append_nil]
 exact ⟨h1, by rw [h5, <- h2], by rw [h5, <- h3], by rw [<- List.drop_drop, h4, List.drop_drop]⟩
theorem KeptI.start {p : α -> Bool} {k : Nat} (hk : k < l.length) (h : ∀ i (hi : i < l.length), i < k -> p l[i] = true) (hp : p l[k] = false) : KeptI p l (k + 1) k l := by
 have h5 : (l.take k).filter p = l.take k := List.filter_eq_self.2 (fun x hx => by
  obtain ⟨i, hi, rfl⟩ := List.getElem_of_mem hx
  rw [List.length_take] at hi
  rw [List.getElem_take]
  exact h i (by omega) (by omega))
 refine KeptI.skip ⟨rfl, ?_, ?_, rfl⟩ hk hp
 ·rw [h5, List.length_take]; omega
 ·rw [h5]
theorem KeptI.done {p : α -> Bool} {j i : Nat} {lk : List α} (h : KeptI p l j i lk) (hj : l.length <= j) : lk.take i = l.filter p /\ i = (l.filter p).length := by
 obtain ⟨h1, h2, h3, h4⟩ := h
 rw [List.take_of_length_le hj] at h2 h3
 exact ⟨h3, h2⟩
theorem filter_all {p : α -> Bool} (h : ∀ i (hi : i < l.length), p l[i] = true) : l.filter p = l := List.filter_eq_self.2 (fun x hx => by
 obtain ⟨i, hi, rfl⟩ := List.getElem_of_mem hx
 exact h i hi)
end
end Wb
namespace Go.Proofs.YtjhmfljlclajnadGreatDoor
open Go.RowKit Wb
theorem elemCpy : Elem Tryz.prog 37 63 2 24 := Elem.mk' (z := .agg #[.int .i64 0, .string ⟨#[]⟩]) Tryz.underlying37 (by kernel_rfl) rfl
theorem txn_block (b : Int) (w : World) : Calls Tryz.prog 109 #[.int .i64 b] w fun e w' => e = .returned (.bool (isBlk b)) /\ w = w' := by
 by_cases h0 : 0 <= b
 ·by_cases h1 : b < 12
  ·have hv : isBlk b = true := decide_eq_true ⟨h0, h1⟩
   rw [hv]
   go_enter Tryz.func109, Tryz.ntmps109
   go_wp2
   go_ret
   exact ⟨rfl, rfl⟩
  ·have hv : isBlk b = false := decide_eq_false fun hh => h1 hh.2
   rw [hv]
   go_enter Tryz.func109, Tryz.ntmps109
   go_wp2
   go_ret
   exact ⟨rfl, rfl⟩
 ·have hv : isBlk b = false := decide_eq_false fun hh => h0 hh.1
  rw [hv]
  go_enter Tryz.func109, Tryz.ntmps109
  go_wp2
  go_ret
  exact ⟨rfl, rfl⟩
theorem txn_find1 (c : Cpy) (b : Int) (w : World) : Calls Tryz.prog 124 #[.agg #[.int .i64 c.block, .string c.text], .int .i64 b] w fun e w' => e = .returned (.int .i64 (cmpI c.block b)) /\ Below w.heap.size w w' := by
 obtain ⟨x, s⟩ := c
 have k0 := Blk.new w #[.int .i64 x, .string s] 63
 have c0 := k0.cell 0; have c1 := k0.cell 1
 simp only [Zga, Zgb, Zgc] at c0 c1
 dsimp only
 by_cases h1 : x < b
 ·rw [cmpI_lt h1]
  go_enter Tryz.func124, Tryz.ntmps124
  go_wp2
  go_ret
  exact ⟨rfl, bal (b0 w) _⟩
 ·by_cases h2 : b < x
  ·rw [cmpI_gt h2]
   go_enter Tryz.func124, Tryz.ntmps124
   go_wp2
   go_ret
   exact ⟨rfl, bal (b0 w) _⟩
  ·have h3 : x = b := by omega
   rw [cmpI_eq h3]
   subst h3
   go_enter Tryz.func124, Tryz.ntmps124
   go_wp2
   go_ret
   exact ⟨rfl, bal (b0 w) _⟩
theorem slices_BinarySearchC (l : List Cpy) (b : Int) (v : Value) (w : World) (hs : rise (blks l) = true) (h : RL cpyC w v l) (hl : l.length <= 5864062014805) :
    Calls Tryz.prog 123 #[v, .int .i64 b, .func (.func 124) #[] #[]] w fun e w' => e = .returned (.tuple #[.int .i64 (posB l b : Nat), .bool (hasB l b)]) /\ Below w.heap.size w w' := by
 obtain ⟨a, cap, rfl, _⟩ := h.form
 have hr := hid (rises hs)
 have hpo := hid (fun i h0 h1 h2 => pos_of (l := l) (b := b) (i := i) h0 h1 h2)
 have hha := hid (fun i h1 h2 => has_of (l := l) (b := b) (i := i) hr.out h1 h2)
 generalize posB l b = p at *
 generalize hasB l b = hb at *
 have hC := fun c w => txn_find1 c b w
 replace h := hid h; replace hC := hid hC
 clear hs
 go_enter Tryz.func123, Tryz.ntmps123
 go_wp2
 go_loopg [9, 10] l.length (fun kx s9 s10 wr => ∃ lo hi : Nat, s9 = .int .i64 lo /\ s10 = .int .i64 hi /\ lo <= hi /\ hi <= l.length /\ hi - lo <= kx /\ Below w.heap.size w wr /\ Hid (∀ k (hk : k < l.length), k < lo -> l[k].block < b) /\ Hid (∀ k (hk : k < l.length), hi <= k -> b <= l[k].block))
 case atStart => exact ⟨0, l.length, rfl, rfl, Nat.zero_le _, Nat.le_refl _, by omega, b0 w, hid (fun k _ hk => absurd hk (Nat.not_lt_zero k)), hid (fun k hk h2 => by omega)⟩
 case round =>
  obtain ⟨lo, hi, rfl, rfl, hlh, hin, hg, nx, i1, i2⟩ := hrel
  by_cases hlt : lo < hi
  ·have hm : (lo + hi) / 2 < l.length := by omega
   obtain ⟨b1, o1, rfl, c0, c1⟩ := RL.at2 (fun x => .int .i64 x.block) (fun x => .string x.text) (fun _ => rfl) (h.out.below nx) hm
   have j1 := hid (fun (hh : l[(lo + hi) / 2].block < b) => (show ∀ k (hk : k < l.length), k < (lo + hi) / 2 + 1 -> l[k].block < b from fun k hk hk2 => by
    by_cases e : k = (lo + hi) / 2
    ·subst e; exact hh
    ·have := hr.out _ hm k (by omega); omega))
   have j2 := hid (fun (hh : b <= l[(lo + hi) / 2].block) => (show ∀ k (hk : k < l.length), (lo + hi) / 2 <= k -> b <= l[k].block from fun k hk hk2 => by
    by_cases e : k = (lo + hi) / 2
    ·subst e; exact hh
    ·have := hr.out k hk _ (show (lo + hi) / 2 < k by omega); omega))
   generalize l[(lo + hi) / 2] = x at *
   have hCx := hC.out x
   by_cases hx : x.block < b
   ·rw [cmpI_lt hx] at hCx
    replace j1 := hid (j1.out hx)
    replace hCx := hid hCx
    clear j2
    go_wp2_with (go_at_call 124; ((with_reducible refine (hCx.out _).mono ?_); rintro e w1 ⟨rfl, hb1⟩))
    go_roundg (hi - ((lo + hi) / 2 + 1))
    case measure => omega
    case rel => exact ⟨(lo + hi) / 2 + 1, hi, by rw [show ((lo : Int) + (hi : Int)) / 2 + 1 = (((lo + hi) / 2 + 1 : Nat) : Int) by omega], rfl, by omega, hin, Nat.le_refl _, bgo nx hb1, j1, i2⟩
   ·have hnn : ¬ cmpI x.block b < 0 := by
      by_cases h2 : b < x.block
      · rw [cmpI_gt h2]; decide
      · rw [cmpI_eq (by omega)]; decide
    generalize cmpI x.block b = cv at *
    replace j2 := hid (j2.out (by omega))
    replace hCx := hid hCx
    clear j1 hx
    go_wp2_with (go_at_call 124; ((with_reducible refine (hCx.out _).mono ?_); rintro e w1 ⟨rfl, hb1⟩))
    go_roundg ((lo + hi) / 2 - lo)
    case measure => omega
    case rel => exact ⟨lo, (lo + hi) / 2, rfl, by rw [show ((lo : Int) + (hi : Int)) / 2 = (((lo + hi) / 2 : Nat) : Int) by omega], by omega, by omega, Nat.le_refl _, bgo nx hb1, i1, j2⟩
  ·obtain rfl : hi = lo := by omega
   have hp := hid (hpo.out hi hin i1.out i2.out)
   have hh := hid (hha.out hi i1.out i2.out)
   by_cases hn : hi < l.length
   ·obtain ⟨b1, o1, rfl, c0, c1⟩ := RL.at2 (fun x => .int .i64 x.block) (fun x => .string x.text) (fun _ => rfl) (h.out.below nx) hn
    have hge := i2.out hi hn (Nat.le_refl _)
    have hh2 : hb = true ↔ l[hi].block = b := ⟨fun h => (hh.out.1 h).2, fun h => hh.out.2 ⟨hn, h⟩⟩
    clear i1 i2 hh
    generalize l[hi] = x at *
    have hCx := hC.out x
    by_cases hx : x.block = b
    ·have hv := hid (hh2.2 hx)
     rw [cmpI_eq hx] at hCx
     replace hCx := hid hCx
     clear hx hge hh2
     go_wp2_with (go_at_call 124; ((with_reducible refine (hCx.out _).mono ?_); rintro e w1 ⟨rfl, hb1⟩))
     go_ret2
     exact ⟨by rw [hp.out, hv.out]; rfl, bgo nx hb1⟩
    ·have hv := hid (show hb = false by
       cases hbv : hb with
       | false => rfl
       | true => exact absurd (hh2.1 hbv) hx)
     rw [cmpI_gt (by omega)] at hCx
     replace hCx := hid hCx
     clear hx hge hh2
     go_wp2_with (go_at_call 124; ((with_reducible refine (hCx.out _).mono ?_); rintro e w1 ⟨rfl, hb1⟩))
     go_ret2
     exact ⟨by rw [hp.out, hv.out]; rfl, bgo nx hb1⟩
   ·have hv := hid (show hb = false by
      cases hbv : hb with
      | false => rfl
      | true => obtain ⟨h1, _⟩ := hh.out.1 hbv; omega)
    clear hh i1 i2
    go_wp2
    go_ret2
    exact ⟨by rw [hp.out, hv.out]; rfl, nx⟩
theorem txn_find (l : List Cpy) (b : Int) (v : Value) (w : World) (hs : rise (blks l) = true) (h : RL cpyC w v l) (hl : l.length <= 5864062014805) :
    Calls Tryz.prog 114 #[v, .int .i64 b] w fun e w' => e = .returned (.tuple #[.int .i64 (posB l b : Nat), .bool (hasB l b)]) /\ Below w.heap.size w w' := by
 have hB := hid (slices_BinarySearchC l b v w hs h hl)
 obtain ⟨a, cap, rfl, _⟩ := h.form
 generalize posB l b = p at *
 clear h hs
 go_enter Tryz.func114, Tryz.ntmps114
 go_wp2_with (go_at_call 123; ((with_reducible refine hB.out.mono ?_); rintro e w1 ⟨rfl, hb1⟩))
 go_ret2
 exact ⟨rfl, hb1⟩
theorem txn_has (l : List Cpy) (b : Int) (v : Value) (w : World) (hs : rise (blks l) = true) (h : RL cpyC w v l) (hl : l.length <= 5864062014805) :
    Calls Tryz.prog 93 #[v, .int .i64 b] w fun e w' => e = .returned (.bool (hasB l b)) /\ Below w.heap.size w w' := by
 have hB := hid (txn_find l b v w hs h hl)
 obtain ⟨a, cap, rfl, _⟩ := h.form
 clear h hs
 go_enter Tryz.func93, Tryz.ntmps93
 go_wp2_with (go_at_call 114; ((with_reducible refine hB.out.mono ?_); rintro e w1 ⟨rfl, hb1⟩))
 go_ret
 exact ⟨rfl, hb1⟩
end Go.Proofs.YtjhmfljlclajnadGreatDoor
namespace Wb
open Go Go.RowKit
theorem Own.setCells {α : Type} {f : α -> List Value} {base : Nat} {e : TypeId} {c : Nat} {v : Value} {l : List α} : ∀ (ps : List (Addr × Value)) (w : World), Own f base e c w v l -> (∀ p ∈ ps, p.1.block < base) -> Own f base e c (ps.foldl (fun w p => w.setCell p.1 p.2) w) v l
 | [], _, h, _ => h
 | p :: ps, w, h, hp => Own.setCells ps _ (h.setCell (hp p (by simp)) p.2) (fun q hq => hp q (by simp [hq]))
theorem Below.setCells {B : Nat} {w : World} : ∀ (ps : List (Addr × Value)) (w' : World), Below B w w' -> (∀ p ∈ ps, B <= p.1.block) -> Below B w (ps.foldl (fun w p => w.setCell p.1 p.2) w')
 | [], _, h, _ => h
 | p :: ps, w', h, hp => Below.setCells ps _ (h.setCell (hp p (by simp)) p.2) (fun q hq => hp q (by simp [hq]))
end Wb
namespace Go.Proofs.YtjhmfljlclajnadGreatDoor
open Go.RowKit Wb
theorem elemIntT : Elem Tryz.prog 38 3 1 8 := Elem.mk' (z := .int .i64 0) Tryz.underlying38 (by kernel_rfl) rfl
end Go.Proofs.YtjhmfljlclajnadGreatDoor
namespace Wb
open Go Go.RowKit
def idxK {α : Type} (key : α -> Int) (l : List α) (b : Int) : Int := match l.findIdx? (fun x => key x == b) with
 | some k => (k : Int)
 | none => -1
section
variable {α : Type} {key : α -> Int} {l : List α} {b : Int}
theorem idxK_hit {k : Nat} (hk : k < l.length) (h1 : key l[k] = b) (h2 : ∀ i (hi : i < k), ¬ key l[i] = b) : idxK key l b = k := by
 have : l.findIdx? (fun x => key x == b) = some k := List.findIdx?_eq_some_iff_getElem.2 ⟨hk, by simpa using h1, fun j hj => by simpa using h2 j hj⟩
 unfold idxK; rw [this]
theorem idxK_none (h2 : ∀ i (hi : i < l.length), ¬ key l[i] = b) : idxK key l b = -1 := by
 have : l.findIdx? (fun x => key x == b) = none := List.findIdx?_eq_none_iff.2 (fun x hx => by
  obtain ⟨i, hi, rfl⟩ := List.getElem_of_mem hx
  simpa using h2 i hi)
 unfold idxK; rw [this]
theorem idxK_spec (key : α -> Int) (l : List α) (b : Int) : (idxK key l b = -1 /\ ∀ i (hi : i < l.length), ¬ key l[i] = b) \/ ∃ k : Nat, idxK key l b = k /\ ∃ hk : k < l.length, key l[k] = b /\ ∀ i (hi : i < k), ¬ key l[i] = b := by
 cases e : l.findIdx? (fun x => key x == b) with
 | none =>
  refine .inl ⟨by unfold idxK; rw [e], fun i hi hb => ?_⟩
  have := List.findIdx?_eq_none_iff.1 e _ (List.getElem_mem hi)
  simp [hb] at this
 | some k =>
  obtain ⟨hk, h1, h2⟩ := List.findIdx?_eq_some_iff_getElem.1 e
  exact .inr ⟨k, by unfold idxK; rw [e], hk, by simpa using h1, fun i hi => by simpa using h2 i hi⟩
end
end Wb
namespace Go.Proofs.YtjhmfljlclajnadGreatDoor
open Go.RowKit Wb
theorem slices_CloneI (l : List Int) (v : Value) (w : World) (h : RL intC w v l) (hl : l.length <= 17592186044160) :
    Calls Tryz.prog 21 #[v] w fun e w' => ∃ v', e = .returned v' /\ Wb.Own intC w.heap.size 3 1 w' v' l /\ Below w.heap.size w w' := by
 have hh := h
 obtain ⟨a, cap, rfl, _, _, h3⟩ := hh
 cases a with
 | none =>
  have h0 : l = [] := by
   rcases h3 with h3 | ⟨_, _, h4, _⟩
   ·have hl2 := flat_len intC_flat.len l
    rw [h3] at hl2
    exact List.length_eq_zero_iff.1 (by simp at hl2; omega)
   ·cases h4
  subst h0
  have heq := Lib.run_eql_slice_nil (P := Tryz.prog) w 38 3 none 0 cap 0 0 elemIntT.under
  clear h h3 hl
  go_enter Tryz.func21, Tryz.ntmps21
  go_wp2
  go_ret
  exact ⟨_, rfl, Own.nil _ _ _ _ _, b0 w⟩
 | some p =>
  obtain ⟨pb, po, ps⟩ := p
  replace h := hid h
  clear h3
  have h0 : Wb.Own intC w.heap.size 3 1 (w.alloc (.cells #[] 3)) (.slice (some ⟨w.heap.size, 0, none⟩) 0 0) [] := Own.ofRow (l := ([] : List Int)) intC_flat (Nat.le_refl _) (Blk.new w #[] _) (Nat.le_refl _) (by unfold maxLen; omega) rfl rfl
  have nx := bal (b0 w) (.cells #[] 3)
  have heq := Lib.run_eql_slice_nil (P := Tryz.prog) w 38 3 (some ⟨pb, po, ps⟩) l.length cap 0 0 elemIntT.under
  replace h0 := hid h0
  go_enter Tryz.func21, Tryz.ntmps21
  go_wp2_with (at_builtin; refine wpList_app rfl _ _ 38 rfl w.heap.size _ 1 8 intC_flat elemIntT h0.out rfl l (h.out.below nx) rfl (by simp; omega) (by simp; unfold maxLen; omega) (by simp) ?_; intro v1 w1 hown1 hg1; obtain ⟨a1, cap1, rfl⟩ := hown1.form; have nx2 := nx.trans (h0.out.belowGrown (by simp) hg1); simp only [List.nil_append, List.length_nil, Nat.zero_add] at hown1 nx2)
  go_ret
  exact ⟨_, rfl, hown1, nx2⟩
theorem slices_CloneC (l : List Cpy) (v : Value) (w : World) (h : RL cpyC w v l) (hl : l.length <= 5864062014805) :
    Calls Tryz.prog 20 #[v] w fun e w' => ∃ v', e = .returned v' /\ Wb.Own cpyC w.heap.size 63 2 w' v' l /\ Below w.heap.size w w' := by
 have hh := h
 obtain ⟨a, cap, rfl, _, _, h3⟩ := hh
 cases a with
 | none =>
  have h0 : l = [] := by
   rcases h3 with h3 | ⟨_, _, h4, _⟩
   ·have hl2 := flat_len cpyC_flat.len l
    rw [h3] at hl2
    exact List.length_eq_zero_iff.1 (by simp at hl2; omega)
   ·cases h4
  subst h0
  have heq := Lib.run_eql_slice_nil (P := Tryz.prog) w 37 63 none 0 cap 0 0 elemCpy.under
  clear h h3 hl
  go_enter Tryz.func20, Tryz.ntmps20
  go_wp2
  go_ret
  exact ⟨_, rfl, Own.nil _ _ _ _ _, b0 w⟩
 | some p =>
  obtain ⟨pb, po, ps⟩ := p
  replace h := hid h
  clear h3
  have h0 : Wb.Own cpyC w.heap.size 63 2 (w.alloc (.cells #[] 63)) (.slice (some ⟨w.heap.size, 0, none⟩) 0 0) [] := Own.ofRow (l := ([] : List Cpy)) cpyC_flat (Nat.le_refl _) (Blk.new w #[] _) (Nat.le_refl _) (by unfold maxLen; omega) rfl rfl
  have nx := bal (b0 w) (.cells #[] 63)
  have heq := Lib.run_eql_slice_nil (P := Tryz.prog) w 37 63 (some ⟨pb, po, ps⟩) l.length cap 0 0 elemCpy.under
  replace h0 := hid h0
  go_enter Tryz.func20, Tryz.ntmps20
  go_wp2_with (at_builtin; refine wpList_app rfl _ _ 37 rfl w.heap.size _ 2 24 cpyC_flat elemCpy h0.out rfl l (h.out.below nx) rfl (by simp; omega) (by simp; unfold maxLen; omega) (by simp) ?_; intro v1 w1 hown1 hg1; obtain ⟨a1, cap1, rfl⟩ := hown1.form; have nx2 := nx.trans (h0.out.belowGrown (by simp) hg1); simp only [List.nil_append, List.length_nil, Nat.zero_add] at hown1 nx2)
  go_ret
  exact ⟨_, rfl, hown1, nx2⟩
theorem slices_IndexI (l : List Int) (b : Int) (v : Value) (w : World) (h : RL intC w v l) (hl : l.length <= 17592186044160) :
    Calls Tryz.prog 113 #[v, .int .i64 b] w fun e w' => ∃ r : Int, e = .returned (.int .i64 r) /\ (inI l b = decide (0 <= r)) /\ w = w' := by
 obtain ⟨a, cap, rfl, _⟩ := h.form
 have hst := fun k (hk : k < l.length) => inI_step (l := l) (b := b) hk
 have hft := fun k (hk : ¬ k < l.length) => inI_full (l := l) (b := b) hk
 have hht := fun k (hk : k < l.length) (hb : l[k] = b) => inI_hit hk hb
 replace h := hid h; replace hst := hid hst; replace hft := hid hft; replace hht := hid hht
 go_enter Tryz.func113, Tryz.ntmps113
 go_wp2
 go_loop [8] (fun i => ∃ k : Nat, k <= l.length /\ i = .int .i64 k /\ Hid (inI (l.take k) b = false)) (fun i => l.length - (intOf i).toNat)
 case atStart => exact ⟨0, Nat.zero_le _, rfl, hid (by simp [inI])⟩
 case round =>
  obtain ⟨k, hk, rfl, hno⟩ := hrel
  by_cases hlt : k < l.length
  ·obtain ⟨b1, o1, rfl, c0⟩ := RL.at1 (fun x => .int .i64 x) (fun _ => rfl) h.out hlt
   by_cases hb : l[k] = b
   ·have hv := hid (hht.out k hlt hb)
    have e1 : (l[k] == b) = true := beq_iff_eq.2 hb
    have e2 : (b == l[k]) = true := beq_iff_eq.2 hb.symm
    clear hb
    generalize l[k] = x at *
    go_wp2
    go_ret
    exact ⟨_, rfl, by rw [hv.out]; exact (decide_eq_true (by omega)).symm, rfl⟩
   ·have hs := hst.out k hlt
    have e1 : (l[k] == b) = false := beq_eq_false_iff_ne.2 hb
    have e2 : (b == l[k]) = false := beq_eq_false_iff_ne.2 (fun x => hb x.symm)
    rw [e1, hno.out] at hs
    replace hs := hid hs
    clear hb
    generalize l[k] = x at *
    go_wp2
    go_round
    case rel => exact ⟨k + 1, by omega, by go_num, hs⟩
    case measure => simp [intOf]; omega
  ·have hv := hid (hft.out k hlt)
   obtain rfl : k = l.length := by omega
   rw [hno.out] at hv
   clear hno
   go_wp2
   go_ret
   exact ⟨_, rfl, by rw [<- hv.out]; rfl, rfl⟩
theorem slices_ContainsI (l : List Int) (b : Int) (v : Value) (w : World) (h : RL intC w v l) (hl : l.length <= 17592186044160) :
    Calls Tryz.prog 88 #[v, .int .i64 b] w fun e w' => e = .returned (.bool (inI l b)) /\ w = w' := by
 have hI := hid (slices_IndexI l b v w h hl)
 obtain ⟨a, cap, rfl, _⟩ := h.form
 clear h
 go_enter Tryz.func88, Tryz.ntmps88
 go_wp2_with (go_at_call 113; ((with_reducible refine hI.out.mono ?_); rintro e w1 ⟨r, rfl, hr, rfl⟩; replace hr := hid hr))
 go_ret
 exact ⟨ret_b hr.out.symm, rfl⟩
theorem txn_Change1 (x b : Int) (gb : Nat) (w : World) (hc : w.cell? ⟨gb, 0, none⟩ = some (.int .i64 b)) :
    Calls Tryz.prog 96 #[.int .i64 x, .pointer (some ⟨gb, 0, none⟩)] w fun e w' => e = .returned (.bool (x == b)) /\ Below w.heap.size w w' := by
 by_cases hb : x = b
 ·have e1 : (x == b) = true := beq_iff_eq.2 hb
  rw [e1]
  subst hb
  go_enter Tryz.func96, Tryz.ntmps96
  go_wp2
  go_ret
  exact ⟨rfl, b0 w⟩
 ·have e1 : (x == b) = false := beq_eq_false_iff_ne.2 hb
  rw [e1]
  go_enter Tryz.func96, Tryz.ntmps96
  go_wp2
  go_ret
  exact ⟨rfl, b0 w⟩
theorem slices_IndexFuncI (l : List Int) (b : Int) (v : Value) (gb : Nat) (w : World) (h : RL intC w v l) (hc : w.cell? ⟨gb, 0, none⟩ = some (.int .i64 b)) (hl : l.length <= 17592186044160) :
    Calls Tryz.prog 115 #[v, .func (.func 96) #[] #[.pointer (some ⟨gb, 0, none⟩)]] w fun e w' => e = .returned (.int .i64 (idxK (fun x => x) l b)) /\ Below w.heap.size w w' := by
 obtain ⟨a, cap, rfl, _⟩ := h.form
 have hit := hid (fun k (hk : k < l.length) (h1 : l[k] = b) h2 => idxK_hit (key := fun x => x) (b := b) hk h1 h2)
 have non := hid (fun h2 => idxK_none (key := fun x => x) (l := l) (b := b) h2)
 have hC := hid (fun x w hc => txn_Change1 x b gb w hc)
 generalize idxK (fun x => x) l b = r at *
 replace h := hid h; replace hc := hid hc
 go_enter Tryz.func115, Tryz.ntmps115
 go_wp2
 go_loopw [8] (fun i wr => ∃ k : Nat, k <= l.length /\ i = .int .i64 k /\ Below w.heap.size w wr /\ Hid (∀ i (hi : i < l.length), i < k -> ¬ l[i] = b)) (fun i _ => l.length - (intOf i).toNat)
 case atStart => exact ⟨0, Nat.zero_le _, rfl, b0 w, hid (fun i _ h => absurd h (Nat.not_lt_zero i))⟩
 case round =>
  obtain ⟨k, hk, rfl, nx, hno⟩ := hrel
  by_cases hlt : k < l.length
  ·obtain ⟨b1, o1, rfl, c0⟩ := RL.at1 (fun x => .int .i64 x) (fun _ => rfl) (h.out.below nx) hlt
   have hcw := hid (cell_below nx hc.out)
   by_cases hb : l[k] = b
   ·have hv := hid (hit.out k hlt hb (fun i hi => hno.out i (by omega) hi))
    have hCx := hC.out l[k] wr hcw.out
    have e1 : (l[k] == b) = true := beq_iff_eq.2 hb
    rw [e1] at hCx
    replace hCx := hid hCx
    clear hb e1 hno hit non
    generalize l[k] = x at *
    go_wp2_with (go_at_call 96; ((with_reducible refine hCx.out.mono ?_); rintro e w1 ⟨rfl, hb1⟩))
    go_ret
    exact ⟨ret_i hv.out.symm, bgo nx hb1⟩
   ·have hno2 : Hid (∀ i (hi : i < l.length), i < k + 1 -> ¬ l[i] = b) := hid (fun i hi h2 => by
      by_cases e : i = k
      · subst e; exact hb
      · exact hno.out i hi (by omega))
    have hCx := hC.out l[k] wr hcw.out
    have e1 : (l[k] == b) = false := beq_eq_false_iff_ne.2 hb
    rw [e1] at hCx
    replace hCx := hid hCx
    clear hb e1 hno hit non
    generalize l[k] = x at *
    go_wp2_with (go_at_call 96; ((with_reducible refine hCx.out.mono ?_); rintro e w1 ⟨rfl, hb1⟩))
    go_roundw
    case rel => first | exact ⟨k + 1, by omega, by go_num, bgo nx hb1, hno2⟩ | ((repeat apply Exists.intro); exact ⟨⟨k + 1, by omega, by go_num, bgo nx hb1, hno2⟩, rfl⟩)
    case measure => simp [intOf]; omega
  ·obtain rfl : k = l.length := by omega
   have hv := hid (non.out (fun i hi => hno.out i hi hi))
   clear hno hit non
   go_wp2
   go_ret
   exact ⟨ret_i hv.out.symm, nx⟩
theorem txn_drop1 (x : Cpy) (b : Int) (gb : Nat) (w : World) (hc : w.cell? ⟨gb, 0, none⟩ = some (.int .i64 b)) :
    Calls Tryz.prog 118 #[.agg #[.int .i64 x.block, .string x.text], .pointer (some ⟨gb, 0, none⟩)] w fun e w' => e = .returned (.bool (x.block == b)) /\ Below w.heap.size w w' := by
 obtain ⟨x, s⟩ := x
 have k0 := Blk.new w #[.int .i64 x, .string s] 63
 have c0 := k0.cell 0; have c1 := k0.cell 1
 have hc2 := cell_below (bal (b0 w) (.cells #[.int .i64 x, .string s] 63)) hc
 simp only [Zga, Zgb, Zgc] at c0 c1
 dsimp only
 by_cases hb : x = b
 ·have e1 : (x == b) = true := beq_iff_eq.2 hb
  rw [e1]
  subst hb
  go_enter Tryz.func118, Tryz.ntmps118
  go_wp2
  go_ret
  exact ⟨rfl, bal (b0 w) _⟩
 ·have e1 : (x == b) = false := beq_eq_false_iff_ne.2 hb
  rw [e1]
  go_enter Tryz.func118, Tryz.ntmps118
  go_wp2
  go_ret
  exact ⟨rfl, bal (b0 w) _⟩
theorem slices_IndexFuncC (l : List Cpy) (b : Int) (v : Value) (gb : Nat) (w : World) (h : RL cpyC w v l) (hc : w.cell? ⟨gb, 0, none⟩ = some (.int .i64 b)) (hl : l.length <= 5864062014805) :
    Calls Tryz.prog 128 #[v, .func (.func 118) #[] #[.pointer (some ⟨gb, 0, none⟩)]] w fun e w' => e = .returned (.int .i64 (idxK (fun x => x.block) l b)) /\ Below w.heap.size w w' := by
 obtain ⟨a, cap, rfl, _⟩ := h.form
 have hit := hid (fun k (hk : k < l.length) (h1 : l[k].block = b) h2 => idxK_hit (key := fun x => x.block) (b := b) hk h1 h2)
 have non := hid (fun h2 => idxK_none (key := fun x => x.block) (l := l) (b := b) h2)
 have hC := hid (fun x w hc => txn_drop1 x b gb w hc)
 generalize idxK (fun x => x.block) l b = r at *
 replace h := hid h; replace hc := hid hc
 go_enter Tryz.func128, Tryz.ntmps128
 go_wp2
 go_loopw [8] (fun i wr => ∃ k : Nat, k <= l.length /\ i = .int .i64 k /\ Below w.heap.size w wr /\ Hid (∀ i (hi : i < l.length), i < k -> ¬ l[i].block = b)) (fun i _ => l.length - (intOf i).toNat)
 case atStart => exact ⟨0, Nat.zero_le _, rfl, b0 w, hid (fun i _ h => absurd h (Nat.not_lt_zero i))⟩
 case round =>
  obtain ⟨k, hk, rfl, nx, hno⟩ := hrel
  by_cases hlt : k < l.length
  ·obtain ⟨b1, o1, rfl, c0, c1⟩ := RL.at2 (fun x => .int .i64 x.block) (fun x => .string x.text) (fun _ => rfl) (h.out.below nx) hlt
   have hcw := hid (cell_below nx hc.out)
   by_cases hb : l[k].block = b
   ·have hv := hid (hit.out k hlt hb (fun i hi => hno.out i (by omega) hi))
    have hCx := hC.out l[k] wr hcw.out
    have e1 : (l[k].block == b) = true := beq_iff_eq.2 hb
    rw [e1] at hCx
    replace hCx := hid hCx
    clear hb e1 hno hit non
    generalize l[k] = x at *
    go_wp2_with (go_at_call 118; ((with_reducible refine hCx.out.mono ?_); rintro e w1 ⟨rfl, hb1⟩))
    go_ret
    exact ⟨ret_i hv.out.symm, bgo nx hb1⟩
   ·have hno2 : Hid (∀ i (hi : i < l.length), i < k + 1 -> ¬ l[i].block = b) := hid (fun i hi h2 => by
      by_cases e : i = k
      · subst e; exact hb
      · exact hno.out i hi (by omega))
    have hCx := hC.out l[k] wr hcw.out
    have e1 : (l[k].block == b) = false := beq_eq_false_iff_ne.2 hb
    rw [e1] at hCx
    replace hCx := hid hCx
    clear hb e1 hno hit non
    generalize l[k] = x at *
    go_wp2_with (go_at_call 118; ((with_reducible refine hCx.out.mono ?_); rintro e w1 ⟨rfl, hb1⟩))
    go_roundw
    case rel => first | exact ⟨k + 1, by omega, by go_num, bgo nx hb1, hno2⟩ | ((repeat apply Exists.intro); exact ⟨⟨k + 1, by omega, by go_num, bgo nx hb1, hno2⟩, rfl⟩)
    case measure => simp [intOf]; omega
  ·obtain rfl : k = l.length := by omega
   have hv := hid (non.out (fun i hi => hno.out i hi hi))
   clear hno hit non
   go_wp2
   go_ret
   exact ⟨ret_i hv.out.symm, nx⟩
end Go.Proofs.YtjhmfljlclajnadGreatDoor
namespace Wb
open Go Go.RowKit
theorem rdS {w : World} {d : Dsk} {vs vw : Value} (h : RDisk w (.agg #[vs, vw]) d) : RL strC w vs d.safe := by
 obtain ⟨_, _, he, h1, _⟩ := h
 cases he
 exact h1
theorem rdW {w : World} {d : Dsk} {vs vw : Value} (h : RDisk w (.agg #[vs, vw]) d) : RL wrC w vw d.writes := by
 obtain ⟨_, _, he, _, h1, _⟩ := h
 cases he
 exact h1
theorem rtM {w : World} {t : Txn} {vm vd vr : Value} (h : RTxn w (txnV t vm vd vr) t) : RL cpyC w vm t.mt /\ RL cpyC w vd t.dt /\ RL intC w vr t.rev := by
 obtain ⟨_, _, _, he, h1, h2, h3, _⟩ := h
 unfold txnV at he
 simp only [Value.agg.injEq, Array.mk.injEq, List.cons.injEq] at he
 obtain ⟨_, rfl, rfl, rfl, _⟩ := he
 exact ⟨h1, h2, h3⟩
end Wb
namespace Go.Proofs.YtjhmfljlclajnadGreatDoor
open Go.RowKit Wb
theorem jr_Disk {S : List Nat} {w0 w : World} {L : List Ent} {R : List Rd} {g : Nat} {j : Jn} {M : List Ent} {Rj : List Rd} (F : JF g j M Rj) (X : St S w0 w (M ++ L) (Rj ++ R)) :
    Calls Tryz.prog 18 #[.pointer (some ⟨g, 0, none⟩)] w fun e w' => ∃ a1 c1 a2 c2, e = .returned (.agg #[.slice a1 j.disk.safe.length c1, .slice a2 j.disk.writes.length c2]) /\ St S w0 w' (M ++ L) (Rd.of wrC (.slice a2 j.disk.writes.length c2) j.disk.writes :: Rd.of strC (.slice a1 j.disk.safe.length c1) j.disk.safe :: (Rj ++ R)) := by
 obtain ⟨v, ds, fs, MD, MU, hm, rfl, rfl⟩ := F
 have hsz := hm.inv.sz hm.sz
 have hln := goodD_len hsz.dk
 rw [List.cons_append] at X ⊢
 have hDk := fun (w : World) (L2 : List Ent) (R2 : List Rd) (X : St S w0 w L2 (R2 ++ (jRds v j ds fs ++ R))) => X.jDisk hsz.dk (fun r hr => List.mem_append_right _ (List.mem_append_left _ hr))
 unfold jCells at X ⊢
 have hCs := fun v w h => clone_Strings j.disk.safe v w h (by have := hln.1; omega)
 have hCw := fun v w h => clone_Writes j.disk.writes v w h (by have := hln.2; omega)
 generalize jRds v j ds fs ++ R = RR at *
 generalize MD ++ MU ++ L = LL at *
 clear hln
 replace hCs := hid hCs; replace hCw := hid hCw; replace hDk := hid hDk
 go_enter Tryz.func18, Tryz.ntmps18
 go_upto_region 3 with (first
     | (refine ZeL ?_) | (refine ZeS ?_; clear X; intro w X) | (refine ZeA ?_; clear X; intro g w X))
 have X9 := X.perm (.swap _ _ _)
 clear X
 have X := X9
 clear X9
 (refine q_startS 1 [] [5, 11, 13] [4, 10] [0, 1, 2, 3, 4, 6, 7, 8, 9, 10, 5, 11, 12, 13] X ?_; clear X; intro hQ X hL; simp only [zF, zG] at hL; simp only [zF, zG])
 refine Zm ?_
 refine Zn ?_
 refine Zf ?_
 refine Zf ?_
 refine Zl ?_
 refine Zm ?_
 refine Zn ?_
 refine Zf ?_
 refine Zf ?_
 refine Zl ?_
 (refine q_callS 38 Tryz.func38 (hCs.out _ _ (rdS (hDk.out _ _ [] X))) ?_; rintro e w1 ⟨v1, rfl, ho1, hb1⟩; obtain ⟨a1, c1, rfl⟩ := ho1.form; replace X := X.addOwn hb1 ho1; clear hb1 ho1; refine Zce ?_; clear hL; intro hL)
 (refine q_callS 39 Tryz.func39 (hCw.out _ _ (rdW (hDk.out _ _ [_] X))) ?_; rintro e w2 ⟨v2, rfl, ho2, hb2⟩; obtain ⟨a2, c2, rfl⟩ := ho2.form; replace X := X.addOwn hb2 ho2; clear hb2 ho2; refine Zce ?_; clear hL; intro hL)
 refine Zg ?_
 (refine Zs ?_; clear hL X; intro w X hL)
 refine q_nil ?_
 go_wp2
 exact m_ret1 rfl (.tmp rfl rfl) X (.tail _ (.head _)) rfl rfl ⟨_, _, _, _, rfl, X.sub (List.Sublist.cons_cons _ (List.sublist_cons_self _ _))⟩
theorem jr_Running {S : List Nat} {w0 w : World} {L : List Ent} {R : List Rd} {g : Nat} {j : Jn} {M : List Ent} {Rj : List Rd} (F : JF g j M Rj) (X : St S w0 w (M ++ L) (Rj ++ R)) :
    Calls Tryz.prog 10 #[.pointer (some ⟨g, 0, none⟩)] w fun e w' => ∃ a1 c1 a2 c2 a3 c3, e = .returned (txnV j.now (.slice a1 j.now.mt.length c1) (.slice a2 j.now.dt.length c2) (.slice a3 j.now.rev.length c3)) /\ St S w0 w' (M ++ L) (Rd.of intC (.slice a3 j.now.rev.length c3) j.now.rev :: Rd.of cpyC (.slice a2 j.now.dt.length c2) j.now.dt :: Rd.of cpyC (.slice a1 j.now.mt.length c1) j.now.mt :: (Rj ++ R)) := by
 obtain ⟨v, ds, fs, MD, MU, hm, rfl, rfl⟩ := F
 have hsz := hm.inv.sz hm.sz
 rw [List.cons_append] at X ⊢
 have hNw := fun (w : World) (L2 : List Ent) (R2 : List Rd) (X : St S w0 w L2 (R2 ++ (jRds v j ds fs ++ R))) => rtM (X.jNow hsz (fun r hr => List.mem_append_right _ (List.mem_append_left _ hr)))
 unfold jCells at X ⊢
 obtain ⟨z1, z2, z3⟩ := hsz.now
 have hC1 := fun v w h => slices_CloneC j.now.mt v w h (by omega)
 have hC2 := fun v w h => slices_CloneC j.now.dt v w h (by omega)
 have hC3 := fun v w h => slices_CloneI j.now.rev v w h (by omega)
 generalize jRds v j ds fs ++ R = RR at *
 generalize MD ++ MU ++ L = LL at *
 clear z1 z2 z3
 replace hC1 := hid hC1; replace hC2 := hid hC2; replace hC3 := hid hC3; replace hNw := hid hNw
 go_enter Tryz.func10, Tryz.ntmps10
 go_upto_region 4 with (first
     | (refine ZyL ?_) | (refine ZyS ?_; clear X; intro w X) | (refine ZyA ?_; clear X; intro g w X))
 (refine q_startS 1 [10, 12, 14] [2, 5, 8, 10, 12, 14] [1, 4, 7] [0, 1, 3, 4, 6, 7, 2, 9, 5, 8, 10, 11, 12, 13, 14] X ?_; clear X; intro hQ X hL; simp only [zF, zG] at hL; simp only [zF, zG])
 refine Zf ?_
 refine Zl ?_
 refine Zf ?_
 refine Zl ?_
 refine Zf ?_
 refine Zl ?_
 (refine q_callS 20 Tryz.func20 (hC1.out _ _ (hNw.out _ _ [] X).1) ?_; rintro e w1 ⟨v1, rfl, ho1, hb1⟩; obtain ⟨a1, c1, rfl⟩ := ho1.form; replace X := X.addOwn hb1 ho1; clear hb1 ho1; refine Zce ?_; clear hL; intro hL)
 refine Zf ?_
 (refine q_callS 20 Tryz.func20 (hC2.out _ _ (hNw.out _ _ [_] X).2.1) ?_; rintro e w2 ⟨v2, rfl, ho2, hb2⟩; obtain ⟨a2, c2, rfl⟩ := ho2.form; replace X := X.addOwn hb2 ho2; clear hb2 ho2; refine Zce ?_; clear hL; intro hL)
 (refine q_callS 21 Tryz.func21 (hC3.out _ _ (hNw.out _ _ [_, _] X).2.2) ?_; rintro e w3 ⟨v3, rfl, ho3, hb3⟩; obtain ⟨a3, c3, rfl⟩ := ho3.form; replace X := X.addOwn hb3 ho3; clear hb3 ho3; refine Zce ?_; clear hL; intro hL)
 (refine Zb ?_; clear X; intro w X)
 refine Zf ?_
 (refine Zb ?_; clear X; intro w X)
 refine Zf ?_
 (refine Zb ?_; clear X; intro w X)
 refine q_nil ?_
 go_wp2_with (first
     | (refine ZyL ?_) | (refine ZyS ?_; clear X; intro w X) | (refine ZyA ?_; clear X; intro g w X))
 exact m_ret1 rfl (.tmp rfl rfl) X (.tail _ (.head _)) rfl rfl ⟨_, _, _, _, _, _, rfl, X.sub (.cons _ (.cons _ (List.Sublist.refl _)))⟩
end Go.Proofs.YtjhmfljlclajnadGreatDoor
