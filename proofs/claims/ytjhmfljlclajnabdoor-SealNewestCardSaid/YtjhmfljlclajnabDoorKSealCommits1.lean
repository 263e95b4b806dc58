/- What Good's parts, Asked, Begin, Stop and may compute. No program in sight. What Change, Fill and Revoke compute, and that a transaction stays good. No program in sight. How many blocks a transaction asks for: what turns that number, and that the log has room. No program in sight. What goes home, by the last revocation. No program in sight. A text as a block. No program in sight. Marks as bytes. No program in sight. A copy as it stands in the log. No program in sight. A mark decoded out of a block. No program in sight. A mark decoded out of a block: what the reference asks, and that a mark comes back. No program in sight. What a log tells, as plain lists. No program in sight. What is left of a log. No program in sight. More on what a log tells. No program in sight. Flush and Crash as plain lists. No program in sight. What a crash leaves, as plain lists. No program in sight. -/
import Derived.Test.YtjhmfljlclajnabDoorKSealCommits0
import Derived.Test.YtjhmfljlclajnabDoorPure
namespace Wb
open Go Go.RowKit
def askedI (t : Txn) : Int := IntKind.i64.wrap (IntKind.i64.wrap (IntKind.i64.wrap (((t.mt.length + t.rev.length : Nat) : Int) + t.h0.left) + t.h1.left) + t.h2.left)
def openB (t : Txn) : Bool := t.h0.on || t.h1.on || t.h2.on
def isHnd (h : Int) : Bool := decide (0 ≤ h ∧ h < 3)
theorem notGood' {t : Txn} (h : seqOk t.seq = false ∨ copiesB t.mt = false ∨ copiesB t.dt = false ∨ rise t.rev = false ∨ apart t = false ∨ hOk t.h0 = false ∨ hOk t.h1 = false ∨ hOk t.h2 = false) : goodT t = false := by
  cases hg : goodT t
  · rfl
  · obtain ⟨h1, h2, h3, h4, h5, h6, h7, h8⟩ := (goodT_iff t).1 hg
    rw [h1, h2, h3, h4, h5, h6, h7, h8] at h
    simp at h
theorem hOk_iff' (h : Hnd) : hOk h = true ↔ 0 ≤ h.left ∧ h.left ≤ 24 ∧ (h.on = true ∨ h.left = 0) := by
  unfold hOk; simp [and_assoc]
def getH (t : Txn) (h : Int) : Hnd := if h = 0 then t.h0 else if h = 1 then t.h1 else t.h2
def setH (t : Txn) (h : Int) (x : Hnd) : Txn := if h = 0 then { t with h0 := x } else if h = 1 then { t with h1 := x } else { t with h2 := x }
def stopE (t : Txn) (h : Int) : Int := if goodT t = false then 2 else if ¬ (0 ≤ h ∧ h ≤ 2) ∨ (getH t h).on = false then 4 else 0
def stopT (t : Txn) (h : Int) : Txn := if stopE t h = 0 then setH t h hnd0 else t
theorem stop_bad {t : Txn} {h : Int} (hg : goodT t = false) : stopE t h = 2 ∧ stopT t h = t := by
  have e : stopE t h = 2 := by unfold stopE; rw [if_pos hg]
  exact ⟨e, by unfold stopT; rw [e, if_neg (by decide)]⟩
theorem stop_none {t : Txn} {h : Int} (hg : goodT t = true) (hn : ¬ (0 ≤ h ∧ h ≤ 2) ∨ (getH t h).on = false) : stopE t h = 4 ∧ stopT t h = t := by
  have e : stopE t h = 4 := by unfold stopE; rw [if_neg (by rw [hg]; decide), if_pos hn]
  exact ⟨e, by unfold stopT; rw [e, if_neg (by decide)]⟩
theorem stop_ok {t : Txn} {h : Int} (hg : goodT t = true) (hh : 0 ≤ h ∧ h ≤ 2) (hn : (getH t h).on = true) : stopE t h = 0 ∧ stopT t h = setH t h hnd0 := by
  have e : stopE t h = 0 := by unfold stopE; rw [if_neg (by rw [hg]; decide), if_neg (by rintro (h1 | h1); exact h1 hh; rw [hn] at h1; cases h1)]
  exact ⟨e, by unfold stopT; rw [if_pos e]⟩
def begE (t : Txn) (h n free : Int) : Int := if goodT t = false then 2 else if ¬ (0 ≤ h ∧ h ≤ 2) then 4 else if (getH t h).on = true then 5 else if n < 0 ∨ 12 < n then 2 else if 24 < askedI t + n ∨ free < mostN (askedI t + n) then 6 else 0
def begT (t : Txn) (h n free : Int) : Txn := if begE t h n free = 0 then setH t h ⟨true, n⟩ else t
theorem begT_not {t : Txn} {h n free : Int} {k : Int} (hk : k ≠ 0) (e : begE t h n free = k) : begE t h n free = k ∧ begT t h n free = t := ⟨e, by unfold begT; rw [e, if_neg hk]⟩
theorem beg_bad {t : Txn} {h n free : Int} (hg : goodT t = false) : begE t h n free = 2 ∧ begT t h n free = t :=
  begT_not (by decide) (by unfold begE; rw [if_pos hg])
theorem beg_none {t : Txn} {h n free : Int} (hg : goodT t = true) (hn : ¬ (0 ≤ h ∧ h ≤ 2)) : begE t h n free = 4 ∧ begT t h n free = t :=
  begT_not (by decide) (by unfold begE; rw [if_neg (by rw [hg]; decide), if_pos hn])
theorem beg_on {t : Txn} {h n free : Int} (hg : goodT t = true) (hh : 0 ≤ h ∧ h ≤ 2) (ho : (getH t h).on = true) : begE t h n free = 5 ∧ begT t h n free = t :=
  begT_not (by decide) (by unfold begE; rw [if_neg (by rw [hg]; decide), if_neg (fun x => x hh), if_pos ho])
theorem beg_far {t : Txn} {h n free : Int} (hg : goodT t = true) (hh : 0 ≤ h ∧ h ≤ 2) (ho : (getH t h).on = false) (hn : n < 0 ∨ 12 < n) : begE t h n free = 2 ∧ begT t h n free = t :=
  begT_not (by decide) (by unfold begE; rw [if_neg (by rw [hg]; decide), if_neg (fun x => x hh), if_neg (by rw [ho]; decide), if_pos hn])
theorem beg_full {t : Txn} {h n free : Int} (hg : goodT t = true) (hh : 0 ≤ h ∧ h ≤ 2) (ho : (getH t h).on = false) (hn : ¬ (n < 0 ∨ 12 < n)) (hf : 24 < askedI t + n ∨ free < mostN (askedI t + n)) : begE t h n free = 6 ∧ begT t h n free = t :=
  begT_not (by decide) (by unfold begE; rw [if_neg (by rw [hg]; decide), if_neg (fun x => x hh), if_neg (by rw [ho]; decide), if_neg hn, if_pos hf])
theorem beg_ok {t : Txn} {h n free : Int} (hg : goodT t = true) (hh : 0 ≤ h ∧ h ≤ 2) (ho : (getH t h).on = false) (hn : ¬ (n < 0 ∨ 12 < n)) (hf : ¬ (24 < askedI t + n ∨ free < mostN (askedI t + n))) : begE t h n free = 0 ∧ begT t h n free = setH t h ⟨true, n⟩ := by
  have e : begE t h n free = 0 := by unfold begE; rw [if_neg (by rw [hg]; decide), if_neg (fun x => x hh), if_neg (by rw [ho]; decide), if_neg hn, if_neg hf]
  exact ⟨e, by unfold begT; rw [if_pos e]⟩
theorem hnd_of_good {t : Txn} (h : goodT t = true) : (0 ≤ t.h0.left ∧ t.h0.left ≤ 24) ∧ (0 ≤ t.h1.left ∧ t.h1.left ≤ 24) ∧ (0 ≤ t.h2.left ∧ t.h2.left ≤ 24) := by
  have no : ∀ {x : Bool}, x ≠ false → x = true := fun {x} hx => by cases x; exact absurd rfl hx; rfl
  have a0 := (hOk_iff' _).1 (no fun hf => by rw [notGood' (.inr (.inr (.inr (.inr (.inr (.inl hf))))))] at h; cases h)
  have a1 := (hOk_iff' _).1 (no fun hf => by rw [notGood' (.inr (.inr (.inr (.inr (.inr (.inr (.inl hf)))))))] at h; cases h)
  have a2 := (hOk_iff' _).1 (no fun hf => by rw [notGood' (.inr (.inr (.inr (.inr (.inr (.inr (.inr hf)))))))] at h; cases h)
  exact ⟨⟨a0.1, a0.2.1⟩, ⟨a1.1, a1.2.1⟩, a2.1, a2.2.1⟩
theorem asked_sum {t : Txn} (h : goodT t = true) (h1 : t.mt.length ≤ 5864062014805) (h2 : t.rev.length ≤ 17592186044160) : askedI t = (t.mt.length : Int) + t.rev.length + t.h0.left + t.h1.left + t.h2.left := by
  obtain ⟨⟨a0, a0'⟩, ⟨a1, a1'⟩, a2, a2'⟩ := hnd_of_good h
  unfold askedI
  rw [IntWalk.i64_in (((t.mt.length + t.rev.length : Nat) : Int) + t.h0.left) (by omega), IntWalk.i64_in (((t.mt.length + t.rev.length : Nat) : Int) + t.h0.left + t.h1.left) (by omega), IntWalk.i64_in _ (by omega)]
  omega
theorem asked_low {t : Txn} (h : goodT t = true) (h1 : t.mt.length ≤ 5864062014805) (h2 : t.rev.length ≤ 17592186044160) : 0 ≤ askedI t ∧ askedI t ≤ 30000000000000 := by
  obtain ⟨⟨a0, a0'⟩, ⟨a1, a1'⟩, a2, a2'⟩ := hnd_of_good h
  rw [asked_sum h h1 h2]
  omega
def mayE (t : Txn) (h b : Int) : Int := if goodT t = false then 2 else if ¬ (0 ≤ h ∧ h ≤ 2) ∨ (getH t h).on = false ∨ isBlk b = false then 4 else 0
theorem may_bad {t : Txn} {h b : Int} (hg : goodT t = false) : mayE t h b = 2 := by unfold mayE; rw [if_pos hg]
theorem may_none {t : Txn} {h b : Int} (hg : goodT t = true) (hn : ¬ (0 ≤ h ∧ h ≤ 2) ∨ (getH t h).on = false ∨ isBlk b = false) : mayE t h b = 4 := by unfold mayE; rw [if_neg (by rw [hg]; decide), if_pos hn]
theorem may_ok {t : Txn} {h b : Int} (hg : goodT t = true) (hh : 0 ≤ h ∧ h ≤ 2) (ho : (getH t h).on = true) (hb : isBlk b = true) : mayE t h b = 0 := by
  unfold mayE; rw [if_neg (by rw [hg]; decide), if_neg]
  rintro (h1 | h1 | h1)
  · exact h1 hh
  · rw [ho] at h1; cases h1
  · rw [hb] at h1; cases h1
end Wb

namespace Wb
open Go Go.RowKit

theorem ne32 {s : ByteArray} (h : ((s.size : Int) != 32) = false) : s.size = 32 := by
  have : (s.size : Int) = 32 := by simpa using h
  omega
theorem ne32' {s : ByteArray} (h : ((s.size : Int) != 32) = true) : ¬ s.size = 32 := fun e => by rw [e] at h; cases h
/-! ### What they compute -/
/-- A block that is named newly is owed for. -/
def owed (t : Txn) (b : Int) : Bool := !(hasB t.mt b || inI t.rev b)
def payE (t : Txn) (h b : Int) : Int := if owed t b = true ∧ (getH t h).left = 0 then 7 else 0
def payT (t : Txn) (h b : Int) : Txn := if owed t b = true then setH t h ⟨(getH t h).on, (getH t h).left - 1⟩ else t
def chgE (t : Txn) (h b : Int) (s : ByteArray) : Int := if mayE t h b ≠ 0 then mayE t h b else if s.size ≠ 32 then 1 else if hasB t.dt b = true then 8 else payE t h b
def chgT (t : Txn) (h b : Int) (s : ByteArray) : Txn := if chgE t h b s = 0 then { payT t h b with mt := putL t.mt b s, rev := offI t.rev b } else t
def filE (t : Txn) (h b : Int) (s : ByteArray) : Int := if mayE t h b ≠ 0 then mayE t h b else if s.size ≠ 32 then 1 else if owed t b = false then 8 else 0
def filT (t : Txn) (h b : Int) (s : ByteArray) : Txn := if filE t h b s = 0 then { t with dt := putL t.dt b s } else t
def rvkE (t : Txn) (h b : Int) : Int := if mayE t h b ≠ 0 then mayE t h b else if inI t.rev b = true then 5 else payE t h b
def rvkT (t : Txn) (h b : Int) : Txn := if rvkE t h b = 0 then { payT t h b with mt := dropC t.mt b, dt := dropC t.dt b, rev := insI t.rev b } else t

theorem setH_same (t : Txn) (h : Int) (x : Hnd) : (setH t h x).seq = t.seq ∧ (setH t h x).mt = t.mt ∧ (setH t h x).dt = t.dt ∧ (setH t h x).rev = t.rev := by
  unfold setH; split
  · exact ⟨rfl, rfl, rfl, rfl⟩
  · split <;> exact ⟨rfl, rfl, rfl, rfl⟩
theorem payT_same (t : Txn) (h b : Int) : (payT t h b).seq = t.seq ∧ (payT t h b).mt = t.mt ∧ (payT t h b).dt = t.dt ∧ (payT t h b).rev = t.rev := by
  unfold payT; split
  · exact setH_same _ _ _
  · exact ⟨rfl, rfl, rfl, rfl⟩

/-- What pay leaves. -/
def payU (t : Txn) (h b : Int) : Txn := if payE t h b = 0 then payT t h b else t
theorem payU_zero {t : Txn} {h b : Int} (e : payE t h b = 0) : payU t h b = payT t h b := if_pos e
theorem payU_same (t : Txn) (h b : Int) : (payU t h b).seq = t.seq ∧ (payU t h b).mt = t.mt ∧ (payU t h b).dt = t.dt ∧ (payU t h b).rev = t.rev := by
  unfold payU; split
  · exact payT_same _ _ _
  · exact ⟨rfl, rfl, rfl, rfl⟩
theorem chg_may {t : Txn} {h b : Int} {s : ByteArray} (hm : ¬ mayE t h b = 0) : chgE t h b s = mayE t h b ∧ chgT t h b s = t := by
  have e : chgE t h b s = mayE t h b := by unfold chgE; rw [if_pos hm]
  exact ⟨e, by unfold chgT; rw [e, if_neg hm]⟩
theorem chg_form {t : Txn} {h b : Int} {s : ByteArray} (hm : mayE t h b = 0) (hs : ¬ s.size = 32) : chgE t h b s = 1 ∧ chgT t h b s = t := by
  have e : chgE t h b s = 1 := by unfold chgE; rw [if_neg (by simp [hm]), if_pos hs]
  exact ⟨e, by unfold chgT; rw [e, if_neg (by decide)]⟩
theorem chg_role {t : Txn} {h b : Int} {s : ByteArray} (hm : mayE t h b = 0) (hs : s.size = 32) (hd : hasB t.dt b = true) : chgE t h b s = 8 ∧ chgT t h b s = t := by
  have e : chgE t h b s = 8 := by unfold chgE; rw [if_neg (by simp [hm]), if_neg (by simp [hs]), if_pos hd]
  exact ⟨e, by unfold chgT; rw [e, if_neg (by decide)]⟩
theorem chg_pay {t : Txn} {h b : Int} {s : ByteArray} (hm : mayE t h b = 0) (hs : s.size = 32) (hd : hasB t.dt b = false) : chgE t h b s = payE t h b := by
  unfold chgE; rw [if_neg (by simp [hm]), if_neg (by simp [hs]), if_neg (by simp [hd])]
theorem chg_broke {t : Txn} {h b : Int} {s : ByteArray} (hm : mayE t h b = 0) (hs : s.size = 32) (hd : hasB t.dt b = false) (hp : ¬ payE t h b = 0) : chgE t h b s = payE t h b ∧ chgT t h b s = t :=
  ⟨chg_pay hm hs hd, by unfold chgT; rw [chg_pay hm hs hd, if_neg hp]⟩
theorem chg_ok {t : Txn} {h b : Int} {s : ByteArray} (hm : mayE t h b = 0) (hs : s.size = 32) (hd : hasB t.dt b = false) (hp : payE t h b = 0) : chgE t h b s = 0 ∧ chgT t h b s = { payU t h b with mt := putL t.mt b s, rev := offI t.rev b } := by
  have e : chgE t h b s = 0 := by rw [chg_pay hm hs hd, hp]
  exact ⟨e, by unfold chgT; rw [if_pos e, payU_zero hp]⟩
theorem fil_may {t : Txn} {h b : Int} {s : ByteArray} (hm : ¬ mayE t h b = 0) : filE t h b s = mayE t h b ∧ filT t h b s = t := by
  have e : filE t h b s = mayE t h b := by unfold filE; rw [if_pos hm]
  exact ⟨e, by unfold filT; rw [e, if_neg hm]⟩
theorem fil_form {t : Txn} {h b : Int} {s : ByteArray} (hm : mayE t h b = 0) (hs : ¬ s.size = 32) : filE t h b s = 1 ∧ filT t h b s = t := by
  have e : filE t h b s = 1 := by unfold filE; rw [if_neg (by simp [hm]), if_pos hs]
  exact ⟨e, by unfold filT; rw [e, if_neg (by decide)]⟩
theorem fil_role {t : Txn} {h b : Int} {s : ByteArray} (hm : mayE t h b = 0) (hs : s.size = 32) (hd : (hasB t.mt b || inI t.rev b) = true) : filE t h b s = 8 ∧ filT t h b s = t := by
  have e : filE t h b s = 8 := by unfold filE owed; rw [if_neg (by simp [hm]), if_neg (by simp [hs]), if_pos (by rw [hd]; rfl)]
  exact ⟨e, by unfold filT; rw [e, if_neg (by decide)]⟩
theorem fil_ok {t : Txn} {h b : Int} {s : ByteArray} (hm : mayE t h b = 0) (hs : s.size = 32) (hd : (hasB t.mt b || inI t.rev b) = false) : filE t h b s = 0 ∧ filT t h b s = { t with dt := putL t.dt b s } := by
  have e : filE t h b s = 0 := by unfold filE owed; rw [if_neg (by simp [hm]), if_neg (by simp [hs]), if_neg (by rw [hd]; decide)]
  exact ⟨e, by unfold filT; rw [if_pos e]⟩
theorem rvk_may {t : Txn} {h b : Int} (hm : ¬ mayE t h b = 0) : rvkE t h b = mayE t h b ∧ rvkT t h b = t := by
  have e : rvkE t h b = mayE t h b := by unfold rvkE; rw [if_pos hm]
  exact ⟨e, by unfold rvkT; rw [e, if_neg hm]⟩
theorem rvk_twice {t : Txn} {h b : Int} (hm : mayE t h b = 0) (hr : inI t.rev b = true) : rvkE t h b = 5 ∧ rvkT t h b = t := by
  have e : rvkE t h b = 5 := by unfold rvkE; rw [if_neg (by simp [hm]), if_pos hr]
  exact ⟨e, by unfold rvkT; rw [e, if_neg (by decide)]⟩
theorem rvk_pay {t : Txn} {h b : Int} (hm : mayE t h b = 0) (hr : inI t.rev b = false) : rvkE t h b = payE t h b := by
  unfold rvkE; rw [if_neg (by simp [hm]), if_neg (by simp [hr])]
theorem rvk_broke {t : Txn} {h b : Int} (hm : mayE t h b = 0) (hr : inI t.rev b = false) (hp : ¬ payE t h b = 0) : rvkE t h b = payE t h b ∧ rvkT t h b = t :=
  ⟨rvk_pay hm hr, by unfold rvkT; rw [rvk_pay hm hr, if_neg hp]⟩
theorem rvk_ok {t : Txn} {h b : Int} (hm : mayE t h b = 0) (hr : inI t.rev b = false) (hp : payE t h b = 0) : rvkE t h b = 0 ∧ rvkT t h b = { payU t h b with mt := dropC t.mt b, dt := dropC t.dt b, rev := insI t.rev b } := by
  have e : rvkE t h b = 0 := by rw [rvk_pay hm hr, hp]
  exact ⟨e, by unfold rvkT; rw [if_pos e, payU_zero hp]⟩

/-! ### Good -/
theorem apart_iff2 (t : Txn) : apart t = true ↔ (∀ b, inI t.rev b = true → hasB t.mt b = false ∧ hasB t.dt b = false) ∧ (∀ b, hasB t.mt b = true → hasB t.dt b = false) := by
  unfold apart
  rw [Bool.and_eq_true, List.all_eq_true, List.all_eq_true]
  constructor
  · rintro ⟨h1, h2⟩
    refine ⟨fun b hb => ?_, fun b hb => ?_⟩
    · have := h1 b (inI_iff.1 hb)
      simpa using this
    · obtain ⟨c, hc, rfl⟩ := hasB_iff.1 hb
      have := h2 c hc
      simpa using this
  · rintro ⟨h1, h2⟩
    refine ⟨fun b hb => ?_, fun c hc => ?_⟩
    · obtain ⟨a1, a2⟩ := h1 b (inI_iff.2 hb)
      simp [a1, a2]
    · simp [h2 c.block (hasB_iff.2 ⟨c, hc, rfl⟩)]
structure GoodT (t : Txn) : Prop where
  seq : 1 ≤ t.seq ∧ t.seq ≤ 2147483647
  mt : copiesB t.mt = true
  dt : copiesB t.dt = true
  rev : rise t.rev = true
  ap : (∀ b, inI t.rev b = true → hasB t.mt b = false ∧ hasB t.dt b = false) ∧ (∀ b, hasB t.mt b = true → hasB t.dt b = false)
  h0 : hOk t.h0 = true
  h1 : hOk t.h1 = true
  h2 : hOk t.h2 = true
theorem goodT_of {t : Txn} : goodT t = true ↔ GoodT t := by
  rw [goodT_iff]
  constructor
  · rintro ⟨a, b, c, d, e, f, g, h⟩
    exact ⟨of_decide_eq_true a, b, c, d, (apart_iff2 t).1 e, f, g, h⟩
  · rintro ⟨a, b, c, d, e, f, g, h⟩
    exact ⟨decide_eq_true a, b, c, d, (apart_iff2 t).2 e, f, g, h⟩
theorem may_zero {t : Txn} {h b : Int} (e : mayE t h b = 0) : goodT t = true ∧ (0 ≤ h ∧ h ≤ 2) ∧ (getH t h).on = true ∧ isBlk b = true := by
  unfold mayE at e
  split at e
  · cases e
  · rename_i hg
    split at e
    · cases e
    · rename_i hn
      refine ⟨by simpa using hg, ?_, ?_, ?_⟩
      · exact Decidable.byContradiction fun hh => hn (.inl hh)
      · cases ho : (getH t h).on with
        | true => rfl
        | false => exact absurd (.inr (.inl ho)) hn
      · cases hb : isBlk b with
        | true => rfl
        | false => exact absurd (.inr (.inr hb)) hn
theorem getH_ok {t : Txn} (g : GoodT t) (h : Int) : hOk (getH t h) = true := by
  unfold getH; split
  · exact g.h0
  · split
    · exact g.h1
    · exact g.h2
theorem setH_good {t : Txn} (g : GoodT t) (h : Int) {x : Hnd} (hx : hOk x = true) : GoodT (setH t h x) := by
  obtain ⟨e1, e2, e3, e4⟩ := setH_same t h x
  refine ⟨by rw [e1]; exact g.seq, by rw [e2]; exact g.mt, by rw [e3]; exact g.dt, by rw [e4]; exact g.rev, by rw [e2, e3, e4]; exact g.ap, ?_, ?_, ?_⟩
  · unfold setH; split
    · exact hx
    · split <;> exact g.h0
  · unfold setH; split
    · exact g.h1
    · split
      · exact hx
      · exact g.h1
  · unfold setH; split
    · exact g.h2
    · split
      · exact g.h2
      · exact hx
theorem payE_zero {t : Txn} {h b : Int} (e : payE t h b = 0) : owed t b = true → (getH t h).left ≠ 0 := fun ho hl => by
  unfold payE at e; rw [if_pos ⟨ho, hl⟩] at e; cases e
theorem payE_cases (t : Txn) (h b : Int) : payE t h b = 0 ∨ payE t h b = 7 := by
  unfold payE; split
  · exact .inr rfl
  · exact .inl rfl
theorem pay_good {t : Txn} (g : GoodT t) {h b : Int} (ho : (getH t h).on = true) (e : payE t h b = 0) : GoodT (payT t h b) := by
  unfold payT
  split
  · rename_i hw
    have hl := payE_zero e hw
    have hk := (hOk_iff' _).1 (getH_ok g h)
    refine setH_good g h ((hOk_iff' _).2 ⟨?_, ?_, .inl ho⟩)
    · show 0 ≤ (getH t h).left - 1; omega
    · show (getH t h).left - 1 ≤ 24; omega
  · exact g
theorem chgE_zero {t : Txn} {h b : Int} {s : ByteArray} (e : chgE t h b s = 0) : mayE t h b = 0 ∧ s.size = 32 ∧ hasB t.dt b = false ∧ payE t h b = 0 := by
  unfold chgE at e
  split at e
  · rename_i h1; exact absurd e h1
  · rename_i h1
    split at e
    · cases e
    · rename_i h2
      split at e
      · cases e
      · rename_i h3
        exact ⟨Decidable.not_not.1 h1, Decidable.not_not.1 h2, by simpa using h3, e⟩
theorem filE_zero {t : Txn} {h b : Int} {s : ByteArray} (e : filE t h b s = 0) : mayE t h b = 0 ∧ s.size = 32 ∧ hasB t.mt b = false ∧ inI t.rev b = false := by
  unfold filE at e
  split at e
  · rename_i h1; exact absurd e h1
  · rename_i h1
    split at e
    · cases e
    · rename_i h2
      split at e
      · cases e
      · rename_i h3
        have : owed t b = true := by simpa using h3
        unfold owed at this
        rw [Bool.not_eq_true', Bool.or_eq_false_iff] at this
        exact ⟨Decidable.not_not.1 h1, Decidable.not_not.1 h2, this.1, this.2⟩
theorem rvkE_zero {t : Txn} {h b : Int} (e : rvkE t h b = 0) : mayE t h b = 0 ∧ inI t.rev b = false ∧ payE t h b = 0 := by
  unfold rvkE at e
  split at e
  · rename_i h1; exact absurd e h1
  · rename_i h1
    split at e
    · cases e
    · rename_i h3
      exact ⟨Decidable.not_not.1 h1, by simpa using h3, e⟩
theorem chg_good {t : Txn} {h b : Int} {s : ByteArray} (hg : goodT t = true) : goodT (chgT t h b s) = true := by
  unfold chgT
  split
  · rename_i e
    obtain ⟨hm, hs, hd, hp⟩ := chgE_zero e
    obtain ⟨_, hh, ho, hb⟩ := may_zero hm
    have g := goodT_of.1 hg
    have gp := pay_good g ho hp
    obtain ⟨e1, e2, e3, e4⟩ := payT_same t h b
    refine goodT_of.2 ⟨gp.seq, put_copies g.mt hb hs, gp.dt, off_rise b g.rev, ?_, gp.h0, gp.h1, gp.h2⟩
    dsimp only
    rw [e3]
    refine ⟨fun x hx => ?_, fun x hx => ?_⟩
    · rw [off_in, Bool.and_eq_true, decide_eq_true_eq] at hx
      rw [put_has b s g.mt]
      have := g.ap.1 x hx.1
      simp [this.1, this.2, hx.2]
    · rw [put_has b s g.mt, Bool.or_eq_true, decide_eq_true_eq] at hx
      rcases hx with rfl | hx
      · exact hd
      · exact g.ap.2 x hx
  · exact hg
theorem fil_good {t : Txn} {h b : Int} {s : ByteArray} (hg : goodT t = true) : goodT (filT t h b s) = true := by
  unfold filT
  split
  · rename_i e
    obtain ⟨hm, hs, hn, hr⟩ := filE_zero e
    obtain ⟨_, hh, ho, hb⟩ := may_zero hm
    have g := goodT_of.1 hg
    refine goodT_of.2 ⟨g.seq, g.mt, put_copies g.dt hb hs, g.rev, ?_, g.h0, g.h1, g.h2⟩
    dsimp only
    refine ⟨fun x hx => ?_, fun x hx => ?_⟩
    · rw [put_has b s g.dt]
      have := g.ap.1 x hx
      have hne : x ≠ b := fun hxb => by rw [hxb, hr] at hx; cases hx
      simp [this.1, this.2, hne]
    · rw [put_has b s g.dt]
      have hne : x ≠ b := fun hxb => by rw [hxb, hn] at hx; cases hx
      simp [g.ap.2 x hx, hne]
  · exact hg
theorem rvk_good {t : Txn} {h b : Int} (hg : goodT t = true) : goodT (rvkT t h b) = true := by
  unfold rvkT
  split
  · rename_i e
    obtain ⟨hm, hr, hp⟩ := rvkE_zero e
    obtain ⟨_, hh, ho, hb⟩ := may_zero hm
    have g := goodT_of.1 hg
    have gp := pay_good g ho hp
    refine goodT_of.2 ⟨gp.seq, drop_copies b g.mt, drop_copies b g.dt, ins_rise g.rev hb hr, ?_, gp.h0, gp.h1, gp.h2⟩
    dsimp only
    refine ⟨fun x hx => ?_, fun x hx => ?_⟩
    · rw [ins_in, Bool.or_eq_true, decide_eq_true_eq] at hx
      rw [drop_has, drop_has]
      rcases hx with rfl | hx
      · simp
      · have := g.ap.1 x hx
        simp [this.1, this.2]
    · rw [drop_has, Bool.and_eq_true] at hx
      rw [drop_has]
      simp [g.ap.2 x hx.1]
  · exact hg
theorem beg_good {t : Txn} {h n free : Int} (hg : goodT t = true) : goodT (begT t h n free) = true := by
  unfold begT
  split
  · rename_i e
    unfold begE at e
    have g := goodT_of.1 hg
    have hn : 0 ≤ n ∧ n ≤ 12 := by
      repeat (first | (split at e <;> first | (cases e; done) | skip) | omega)
    exact goodT_of.2 (setH_good g h ((hOk_iff' _).2 ⟨hn.1, by show n ≤ 24; omega, .inl rfl⟩))
  · exact hg
theorem stop_good {t : Txn} {h : Int} (hg : goodT t = true) : goodT (stopT t h) = true := by
  unfold stopT
  split
  · exact goodT_of.2 (setH_good (goodT_of.1 hg) h (by decide))
  · exact hg
end Wb

namespace Wb
open Go Go.RowKit
def askN (t : Txn) : Int := (t.mt.length : Int) + t.rev.length + t.h0.left + t.h1.left + t.h2.left
theorem lens {t : Txn} (g : GoodT t) : t.mt.length ≤ 12 ∧ t.dt.length ≤ 12 ∧ t.rev.length ≤ 12 := ⟨copies_len g.mt, copies_len g.dt, rise_len g.rev⟩
theorem asked_ask {t : Txn} (hg : goodT t = true) : askedI t = askN t := by
  obtain ⟨a, _, b⟩ := lens (goodT_of.1 hg)
  exact asked_sum hg (by omega) (by omega)
theorem hnds_bd {t : Txn} (g : GoodT t) : (0 ≤ t.h0.left ∧ t.h0.left ≤ 24) ∧ (0 ≤ t.h1.left ∧ t.h1.left ≤ 24) ∧ (0 ≤ t.h2.left ∧ t.h2.left ≤ 24) := hnd_of_good (goodT_of.2 g)
theorem ask_bd {t : Txn} (g : GoodT t) : 0 ≤ askN t ∧ askN t ≤ 96 := by
  obtain ⟨a, _, b⟩ := lens g
  have := hnds_bd g
  unfold askN; omega
theorem ask_set (t : Txn) {h : Int} (hh : 0 ≤ h ∧ h ≤ 2) (x : Hnd) : askN (setH t h x) = askN t - (getH t h).left + x.left := by
  obtain (rfl | rfl | rfl) : h = 0 ∨ h = 1 ∨ h = 2 := by omega
  · have e1 : setH t 0 x = { t with h0 := x } := rfl
    have e2 : getH t 0 = t.h0 := rfl
    rw [e1, e2]; simp only [askN]; omega
  · have e1 : setH t 1 x = { t with h1 := x } := rfl
    have e2 : getH t 1 = t.h1 := rfl
    rw [e1, e2]; simp only [askN]; omega
  · have e1 : setH t 2 x = { t with h2 := x } := rfl
    have e2 : getH t 2 = t.h2 := rfl
    rw [e1, e2]; simp only [askN]; omega
theorem drop_len {l : List Cpy} (b : Int) (h : copiesB l = true) : (dropC l b).length + (if hasB l b then 1 else 0) = l.length := by
  have h1 := ((copies_pw l).1 h).1
  clear h
  induction l with
  | nil => rfl
  | cons x l ih =>
    rw [blks, List.map_cons, List.pairwise_cons] at h1
    have := ih h1.2
    by_cases e : x.block = b
    · have hn : hasB l b = false := by
        cases hb : hasB l b with
        | false => rfl
        | true =>
          obtain ⟨c, hc, hcb⟩ := hasB_iff.1 hb
          have := h1.1 c.block (List.mem_map_of_mem hc); omega
      rw [hn] at this
      have hi : hasB (x :: l) b = true := hasB_iff.2 ⟨x, by simp, e⟩
      rw [hi]
      simp [dropC, e] at this ⊢
      exact this
    · have hi : hasB (x :: l) b = hasB l b := by
        unfold hasB; rw [List.any_cons]; simp [e]
      rw [hi]
      simp [dropC, e] at this ⊢
      omega
theorem ask_pay (t : Txn) {h b : Int} (hh : 0 ≤ h ∧ h ≤ 2) : askN (payT t h b) = askN t - (if owed t b then 1 else 0) := by
  unfold payT
  split
  · rename_i e
    rw [ask_set t hh]; simp only; omega
  · omega
theorem ask_swap (t : Txn) (m d : List Cpy) (r : List Int) : askN { t with mt := m, dt := d, rev := r } = askN t - t.mt.length - t.rev.length + m.length + r.length := by
  simp only [askN]; omega
theorem chg_ask {t : Txn} {h b : Int} {s : ByteArray} (hg : goodT t = true) : askN (chgT t h b s) = askN t := by
  unfold chgT
  split
  · rename_i e
    obtain ⟨hm, hs, hd, hp⟩ := chgE_zero e
    obtain ⟨_, hh, ho, hb⟩ := may_zero hm
    have g := goodT_of.1 hg
    obtain ⟨e1, e2, e3, e4⟩ := payT_same t h b
    have h1 := ask_swap (payT t h b) (putL t.mt b s) (payT t h b).dt (offI t.rev b)
    have h2 := put_len b s g.mt
    have h3 := off_len b g.rev
    have h4 := ask_pay t (b := b) hh
    have h5 := g.ap.1 b
    rw [h1, h4, e2, e4]
    unfold owed
    cases hq : hasB t.mt b <;> cases hr : inI t.rev b <;> rw [hq] at h2 <;> rw [hr] at h3
    · simp at h2 h3 ⊢; omega
    · simp at h2 h3 ⊢; omega
    · simp at h2 h3 ⊢; omega
    · have := (h5 hr).1; rw [hq] at this; cases this
  · rfl
theorem fil_ask {t : Txn} {h b : Int} {s : ByteArray} : askN (filT t h b s) = askN t := by
  unfold filT
  split <;> rfl
theorem rvk_ask {t : Txn} {h b : Int} (hg : goodT t = true) : askN (rvkT t h b) = askN t := by
  unfold rvkT
  split
  · rename_i e
    obtain ⟨hm, hr, hp⟩ := rvkE_zero e
    obtain ⟨_, hh, ho, hb⟩ := may_zero hm
    have g := goodT_of.1 hg
    obtain ⟨e1, e2, e3, e4⟩ := payT_same t h b
    have h1 := ask_swap (payT t h b) (dropC t.mt b) (dropC t.dt b) (insI t.rev b)
    have h2 := drop_len b g.mt
    have h3 := ins_len t.rev b
    have h4 := ask_pay t (b := b) hh
    rw [h1, h4, e2, e4]
    unfold owed
    rw [hr]
    cases hq : hasB t.mt b <;> rw [hq] at h2
    · simp at h2 ⊢; omega
    · simp at h2 ⊢; omega
  · rfl
theorem stop_ask {t : Txn} {h : Int} (hg : goodT t = true) : askN (stopT t h) ≤ askN t := by
  unfold stopT
  split
  · rename_i e
    have hh : 0 ≤ h ∧ h ≤ 2 := by
      unfold stopE at e
      rw [if_neg (by rw [hg]; decide)] at e
      split at e
      · cases e
      · rename_i hn
        exact Decidable.byContradiction fun hh => hn (.inl hh)
    rw [ask_set t hh]
    have := (hOk_iff' _).1 (getH_ok (goodT_of.1 hg) h)
    simp only [hnd0]; omega
  · omega
theorem begE_zero {t : Txn} {h n free : Int} (e : begE t h n free = 0) : goodT t = true ∧ (0 ≤ h ∧ h ≤ 2) ∧ (getH t h).on = false ∧ (0 ≤ n ∧ n ≤ 12) ∧ askedI t + n ≤ 24 ∧ mostN (askedI t + n) ≤ free := by
  unfold begE at e
  split at e
  · cases e
  · rename_i h1
    split at e
    · cases e
    · rename_i h2
      split at e
      · cases e
      · rename_i h3
        split at e
        · cases e
        · rename_i h4
          split at e
          · cases e
          · rename_i h5
            exact ⟨by simpa using h1, Decidable.not_not.1 h2, by simpa using h3, by omega, by omega, by omega⟩
theorem beg_ask {t : Txn} {h n free : Int} (e : begE t h n free = 0) : askN (begT t h n free) = askN t + n ∧ askN t + n ≤ 24 ∧ mostN (askN t + n) ≤ free := by
  obtain ⟨hg, hh, ho, hn, h1, h2⟩ := begE_zero e
  rw [asked_ask hg] at h1 h2
  refine ⟨?_, h1, h2⟩
  unfold begT
  rw [if_pos e, ask_set t hh]
  have hk := (hOk_iff' _).1 (getH_ok (goodT_of.1 hg) h)
  have : (getH t h).left = 0 := by
    rcases hk.2.2 with h | h
    · rw [ho] at h; cases h
    · exact h
  rw [this]; simp only; omega
theorem most_mono {a b : Int} (h : a ≤ b) : mostN a ≤ mostN b := by unfold mostN clamp24 partsOf; omega
theorem need_most {t : Txn} (g : GoodT t) : needN t.mt.length t.rev.length ≤ mostN (askN t) ∧ needE t.mt.length t.rev.length = 0 := by
  obtain ⟨a, _, b⟩ := lens g
  obtain ⟨h0, h1, h2⟩ := hnds_bd g
  have e : needE t.mt.length t.rev.length = 0 := by unfold needE; rw [if_neg (by omega)]
  refine ⟨?_, e⟩
  unfold needN
  rw [if_pos e]
  unfold mostN clamp24 partsOf askN
  omega
end Wb

namespace Wb
open Go Go.RowKit
/-- The number of the last of the first k transactions that revoked block b, counted from 1; 0: none did. -/
def rho (l : List Txn) : Nat → Int → Nat
  | 0, _ => 0
  | k + 1, b => match l[k]? with
    | some t => if inI t.rev b then k + 1 else rho l k b
    | none => rho l k b
theorem rho_step {l : List Txn} {k : Nat} (hk : k < l.length) (b : Int) : rho l (k + 1) b = if inI l[k].rev b then k + 1 else rho l k b := by
  simp only [rho, List.getElem?_eq_getElem hk]
theorem rho_le (l : List Txn) (k : Nat) (b : Int) : rho l k b ≤ k := by
  induction k with
  | zero => exact Nat.le_refl _
  | succ k ih =>
    unfold rho
    split
    · split
      · exact Nat.le_refl _
      · omega
    · omega
/-- The last revocation revokes, and none behind it does. -/
theorem rho_last (l : List Txn) (k : Nat) (hk : k ≤ l.length) (b : Int) : (∀ i (hi : i < k), rho l k b ≤ i → inI (l[i]'(by omega)).rev b = false) ∧ (∀ m, rho l k b = m + 1 → ∃ hm : m < l.length, inI l[m].rev b = true) := by
  induction k with
  | zero => exact ⟨fun i hi => by omega, fun m hm => by simp [rho] at hm⟩
  | succ k ih =>
    obtain ⟨h1, h2⟩ := ih (by omega)
    rw [rho_step (by omega)]
    by_cases hc : inI (l[k]'(by omega)).rev b = true
    · rw [if_pos hc]
      exact ⟨fun i hi hh => by omega, fun m hm => ⟨by omega, by obtain rfl : k = m := by omega
                                                                exact hc⟩⟩
    · rw [if_neg hc]
      refine ⟨fun i hi hh => ?_, h2⟩
      by_cases hik : i = k
      · subst hik; simpa using hc
      · exact h1 i (by omega) hh
/-- The texts behind k transactions, those ahead of a last revocation left out. -/
def txF (l : List Txn) (r : Int → Nat) : Nat → Int → Option ByteArray
  | 0, _ => none
  | k + 1, b => match l[k]? with
    | some t => match getC t.mt b with
      | some s => if r b ≤ k then some s else txF l r k b
      | none => txF l r k b
    | none => txF l r k b
theorem txF_step {l : List Txn} {k : Nat} (hk : k < l.length) (r : Int → Nat) (b : Int) : txF l r (k + 1) b = match getC l[k].mt b with | some s => if r b ≤ k then some s else txF l r k b | none => txF l r k b := by
  simp only [txF, List.getElem?_eq_getElem hk]
def metaG (g : Int → Option ByteArray) (r : Int → Nat) (i : Nat) (m : List Cpy) : Int → Option ByteArray := m.foldl (fun f c x => if x = c.block ∧ r x ≤ i then some c.text else f x) g
theorem metaG_step (g : Int → Option ByteArray) (r : Int → Nat) (i : Nat) {m : List Cpy} {k : Nat} (hk : k < m.length) (x : Int) : metaG g r i (m.take (k + 1)) x = if x = m[k].block ∧ r x ≤ i then some m[k].text else metaG g r i (m.take k) x := by
  unfold metaG
  rw [List.take_succ_eq_append_getElem hk, List.foldl_append]
  rfl
theorem metaG_good {m : List Cpy} (h : copiesB m = true) (g : Int → Option ByteArray) (r : Int → Nat) (i : Nat) (x : Int) : metaG g r i m x = match getC m x with | some s => if r x ≤ i then some s else g x | none => g x := by
  have hm := metaF_good h g x
  have key : ∀ k, k ≤ m.length → metaG g r i (m.take k) x = if r x ≤ i then metaF g (m.take k) x else g x := by
    intro k
    induction k with
    | zero => intro _; simp [metaG, metaF]
    | succ k ih =>
      intro hk
      rw [metaG_step g r i (show k < m.length by omega), ih (by omega), ← metaF_step g (show k < m.length by omega)]
      show _ = if r x ≤ i then (if x = m[k].block then some m[k].text else metaF g (m.take k) x) else g x
      by_cases h1 : r x ≤ i
      · by_cases h2 : x = m[k].block
        · rw [if_pos ⟨h2, h1⟩, if_pos h1, if_pos h2]
        · rw [if_neg (fun hh => h2 hh.1), if_pos h1, if_pos h1, if_neg h2]
      · rw [if_neg (fun hh => h1 hh.2), if_neg h1, if_neg h1]
  have := key m.length (Nat.le_refl _)
  rw [List.take_length, hm] at this
  rw [this]
  by_cases h1 : r x ≤ i
  · rw [if_pos h1]
    cases getC m x with
    | some s => dsimp only; rw [if_pos h1]
    | none => rfl
  · rw [if_neg h1]
    cases getC m x with
    | some s => dsimp only; rw [if_neg h1]
    | none => rfl
/-- All told: it is the newest. -/
theorem txF_newest {l : List Txn} (hg : ∀ t ∈ l, goodT t = true) (b : Int) : txF l (rho l l.length) l.length b = newestB l b := by
  have hgk : ∀ k (hk : k < l.length), goodT l[k] = true := fun k hk => hg _ (List.getElem_mem hk)
  obtain ⟨h1, h2⟩ := rho_last l l.length (Nat.le_refl _) b
  have hle := rho_le l l.length b
  generalize hm : rho l l.length = r at *
  have hlow : ∀ k, k ≤ r b → txF l r k b = none := by
    intro k
    induction k with
    | zero => intro _; rfl
    | succ k ih =>
      intro hk
      rw [txF_step (by omega), ih (by omega)]
      cases getC (l[k]'(by omega)).mt b with
      | none => rfl
      | some s => dsimp only; rw [if_neg (by omega)]
  have hnb : newestB (l.take (r b)) b = none := by
    cases hr : r b with
    | zero => rfl
    | succ m =>
      obtain ⟨hml, hin⟩ := h2 m hr
      rw [newestB_step hml]
      unfold turnT
      cases hc : getC l[m].mt b with
      | none => dsimp only; rw [hin]; rfl
      | some s =>
        exfalso
        have hb : hasB l[m].mt b = true := by rw [hasB_get, hc]; rfl
        have ha := ((goodT_iff l[m]).1 (hgk m hml)).2.2.2.2.1
        unfold apart at ha
        rw [Bool.and_eq_true, List.all_eq_true] at ha
        have hbm : b ∈ l[m].rev := by
          unfold inI at hin
          obtain ⟨x, hx, hxb⟩ := List.any_eq_true.1 hin
          rw [beq_iff_eq] at hxb
          exact hxb ▸ hx
        have := ha.1 b hbm
        rw [hb] at this
        cases this
  have hup : ∀ d, r b + d ≤ l.length → txF l r (r b + d) b = newestB (l.take (r b + d)) b := by
    intro d
    induction d with
    | zero => intro _; rw [Nat.add_zero, hlow _ (Nat.le_refl _), hnb]
    | succ d ih =>
      intro hd
      have hlt : r b + d < l.length := by omega
      rw [show r b + (d + 1) = r b + d + 1 from rfl, txF_step hlt, newestB_step hlt, ih (by omega)]
      unfold turnT
      rw [h1 (r b + d) hlt (by omega)]
      cases getC l[r b + d].mt b with
      | none => rfl
      | some s => dsimp only; rw [if_pos (by omega)]
  have := hup (l.length - r b) (by omega)
  rw [show r b + (l.length - r b) = l.length by omega, List.take_length] at this
  exact this
/-- What the two maps hold. -/
def revV (r : Int → Nat) (b : Int) : Option Value := if r b = 0 then none else some (.int .i64 (r b : Int))
def txtV (f : Int → Option ByteArray) (b : Int) : Option Value := (f b).map Value.string
theorem revV_get (r : Int → Nat) (b : Int) : (revV r b).getD (.int .i64 0) = .int .i64 (r b : Int) := by
  unfold revV
  split
  · rename_i h; rw [h]; rfl
  · rfl
theorem txtV_get (f : Int → Option ByteArray) (b : Int) : (txtV f b).getD (.string ⟨#[]⟩) = .string ((f b).getD ⟨#[]⟩) := by
  unfold txtV
  cases f b <;> rfl
theorem txtV_some (f : Int → Option ByteArray) (b : Int) : (txtV f b).isSome = (f b).isSome := by unfold txtV; cases f b <;> rfl
end Wb

namespace Wb
/-- A text as a block: cut, or filled up with noughts. -/
def fitL (s : List UInt8) : List UInt8 := s.take 32 ++ List.replicate (32 - s.length) 0
theorem fitL_len (s : List UInt8) : (fitL s).length = 32 := by rw [fitL, List.length_append, List.length_take, List.length_replicate]; omega
theorem fitL_same {s : List UInt8} (h : s.length = 32) : fitL s = s := by rw [fitL, h, List.take_of_length_le (Nat.le_of_eq h), Nat.sub_self, List.replicate_zero, List.append_nil]
def fit (s : ByteArray) : ByteArray := str (fitL s.data.toList)
theorem fit_size (s : ByteArray) : (fit s).size = 32 := by rw [fit, str_size, fitL_len]
theorem fit_same {s : ByteArray} (h : s.size = 32) : fit s = s := by
  rw [fit, fitL_same (by rw [Array.length_toList]; exact h), str_toList]
/-- The first k bytes of a text, noughts behind them, 32 in all. -/
def fitPart (s : List UInt8) (k : Nat) : List UInt8 := s.take k ++ List.replicate (32 - k) 0
theorem fitPart_len {s : List UInt8} {k : Nat} (h : k ≤ s.length) (h2 : k ≤ 32) : (fitPart s k).length = 32 := by simp [fitPart]; omega
theorem fitPart_zero (s : List UInt8) : fitPart s 0 = List.replicate 32 0 := by simp [fitPart]
theorem fitPart_set {s : List UInt8} {k : Nat} (h : k < s.length) (h2 : k < 32) : (fitPart s k).set k s[k] = fitPart s (k + 1) := by
  apply List.ext_getElem?
  intro i
  unfold fitPart
  have hl : (s.take k).length = k := by simp; omega
  have hl1 : (s.take (k + 1)).length = k + 1 := by simp; omega
  rw [List.getElem?_set]
  by_cases e : k = i
  · subst e
    rw [if_pos rfl, if_pos (by simp; omega), List.getElem?_append_left (by omega), List.getElem?_take_of_lt (by omega)]
    simp [h]
  · rw [if_neg e]
    by_cases e2 : i < k
    · rw [List.getElem?_append_left (by omega), List.getElem?_append_left (by omega), List.getElem?_take_of_lt e2, List.getElem?_take_of_lt (by omega)]
    · rw [List.getElem?_append_right (by omega), List.getElem?_append_right (by omega), hl, hl1, List.getElem?_replicate, List.getElem?_replicate]
      by_cases e3 : i < 32
      · rw [if_pos (by omega), if_pos (by omega)]
      · rw [if_neg (by omega), if_neg (by omega)]
theorem fitPart_full {s : List UInt8} {k : Nat} (h : k ≤ s.length) (h2 : k ≤ 32) (h3 : ¬ (k < s.length ∧ k < 32)) : fitPart s k = fitL s := by
  unfold fitPart fitL
  by_cases e : s.length ≤ 32
  · obtain rfl : k = s.length := by omega
    rw [List.take_of_length_le (Nat.le_refl _), List.take_of_length_le e]
  · obtain rfl : k = 32 := by omega
    simp; omega
end Wb

namespace Wb
open Go Go.RowKit
def magic : List UInt8 := [87, 66, 75, 49]
def headL (m : Mrk) : List UInt8 := magic ++ [byte m.kind, byte (m.seq / 16777216), byte (m.seq / 65536), byte (m.seq / 256), byte m.seq]
def tagB (t : Tag) : List UInt8 := [byte t.block, if t.esc then 1 else 0]
theorem tagBs_len (l : List Tag) : (l.flatMap tagB).length = l.length * 2 := by
  induction l with
  | nil => rfl
  | cons x l ih => rw [List.flatMap_cons, List.length_append, ih, List.length_cons]; show 2 + _ = _; omega
def bodyL (m : Mrk) : List UInt8 :=
  if m.kind = 1 then [byte m.at_] else if m.kind = 2 then [byte m.tags.length] ++ m.tags.flatMap tagB else if m.kind = 3 then [byte m.blocks.length] ++ m.blocks.map byte else []
theorem bodyL_len (m : Mrk) (h1 : m.tags.length ≤ 10) (h2 : m.blocks.length ≤ 20) : (bodyL m).length ≤ 21 := by
  unfold bodyL
  split
  · simp
  · split
    · rw [List.length_append, tagBs_len]; simp only [List.length_cons, List.length_nil]; omega
    · split
      · rw [List.length_append, List.length_map]; simp only [List.length_cons, List.length_nil]; omega
      · simp
/-- A mark's bytes. -/
def markL (m : Mrk) : List UInt8 := fitL (headL m ++ bodyL m)
def markS (m : Mrk) : ByteArray := if markE m = 0 then str (markL m) else str []
theorem markE_good {m : Mrk} (hE : markE m = 0) : ¬ badKind m ∧ ¬ badNum m ∧ ¬ badForm m ∧ ¬ badLen m := by
  refine ⟨fun h => ?_, fun h => ?_, fun h => ?_, fun h => ?_⟩
  · rw [markE_kind h] at hE; exact absurd hE (by decide)
  · by_cases h1 : badKind m
    · rw [markE_kind h1] at hE; exact absurd hE (by decide)
    · rw [markE_num h1 h] at hE; exact absurd hE (by decide)
  · by_cases h1 : badKind m
    · rw [markE_kind h1] at hE; exact absurd hE (by decide)
    · by_cases h2 : badNum m
      · rw [markE_num h1 h2] at hE; exact absurd hE (by decide)
      · rw [markE_form h1 h2 h] at hE; exact absurd hE (by decide)
  · by_cases h1 : badKind m
    · rw [markE_kind h1] at hE; exact absurd hE (by decide)
    · by_cases h2 : badNum m
      · rw [markE_num h1 h2] at hE; exact absurd hE (by decide)
      · by_cases h3 : badForm m
        · rw [markE_form h1 h2 h3] at hE; exact absurd hE (by decide)
        · rw [markE_len h1 h2 h3 h] at hE; exact absurd hE (by decide)
theorem markL_len (m : Mrk) : (markL m).length = 32 := fitL_len _
theorem fit_str (l : List UInt8) : fit (str l) = str (fitL l) := by simp [fit, str]
end Wb

namespace Wb
open Go Go.RowKit
def isEsc (s : ByteArray) : Bool := decide (s.data.toList.take 4 = magic)
def escS (s : ByteArray) : ByteArray := if isEsc s then str ([0, 0, 0, 0] ++ s.data.toList.drop 4) else s
def unescS (s : ByteArray) (e : Bool) : ByteArray := if e = true ∧ 4 ≤ s.size then str (magic ++ s.data.toList.drop 4) else s
theorem ba_len (s : ByteArray) : s.data.toList.length = s.size := by rw [Array.length_toList]; rfl
theorem isEsc_len {s : ByteArray} (h : isEsc s = true) : 4 ≤ s.size := by
  have h := of_decide_eq_true h
  have := congrArg List.length h
  rw [List.length_take, ba_len] at this
  have h4 : magic.length = 4 := rfl
  omega
theorem isEsc_short {s : ByteArray} (h : s.size < 4) : isEsc s = false := by
  cases hb : isEsc s
  · rfl
  · exact absurd (isEsc_len hb) (by omega)
end Wb

namespace Wb
open Go Go.RowKit
def bt (s : ByteArray) (i : Nat) : UInt8 := s.data.toList.getD i 0
theorem bt_get (s : ByteArray) (i : Nat) (h : i < s.size) : s[i] = bt s i := by
  have h' : i < s.data.toList.length := by simpa using h
  simp [bt, List.getD_eq_getElem?_getD, List.getElem?_eq_getElem h']
  rfl
def nb (s : ByteArray) (i : Nat) : Int := ((bt s i).toNat : Int)
theorem nb_nonneg (s : ByteArray) (i : Nat) : 0 ≤ nb s i := Int.natCast_nonneg _
theorem nb_lt (s : ByteArray) (i : Nat) : nb s i < 256 := by have := (bt s i).toNat_lt; unfold nb; omega
theorem byte_nb (s : ByteArray) (i : Nat) : byte (nb s i) = bt s i := by
  apply UInt8.toNat_inj.1
  have h := byte_val (nb s i)
  rw [Int.emod_eq_of_lt (nb_nonneg s i) (nb_lt s i)] at h
  unfold nb at h ⊢
  omega
def seqOf (s : ByteArray) : Int := nb s 5 * 16777216 + nb s 6 * 65536 + nb s 7 * 256 + nb s 8
def tagAt (s : ByteArray) (i : Nat) : Tag := ⟨nb s (10 + 2 * i), decide (nb s (11 + 2 * i) = 1)⟩
def rawTags (s : ByteArray) (n : Nat) : List Tag := (List.range n).map (tagAt s)
def rawBlks (s : ByteArray) (n : Nat) : List Int := (List.range n).map (fun i => nb s (10 + i))
theorem rawTags_succ (s : ByteArray) (n : Nat) : rawTags s (n + 1) = rawTags s n ++ [tagAt s n] := by simp [rawTags, List.range_succ]
theorem rawBlks_succ (s : ByteArray) (n : Nat) : rawBlks s (n + 1) = rawBlks s n ++ [nb s (10 + n)] := by simp [rawBlks, List.range_succ]
theorem rawTags_len (s : ByteArray) (n : Nat) : (rawTags s n).length = n := by simp [rawTags]
theorem rawBlks_len (s : ByteArray) (n : Nat) : (rawBlks s n).length = n := by simp [rawBlks]
def cnt (s : ByteArray) : Nat := (bt s 9).toNat
def rawM (s : ByteArray) : Mrk :=
  ⟨nb s 4, seqOf s, if nb s 4 = 1 then nb s 9 else 0, if nb s 4 = 2 then rawTags s (min (cnt s) 11) else [], if nb s 4 = 3 then rawBlks s (min (cnt s) 22) else []⟩
def okS (s : ByteArray) : Prop := s.size = 32 ∧ s.data.toList.take 4 = magic
instance (s : ByteArray) : Decidable (okS s) := by unfold okS; infer_instance
def decOk (s : ByteArray) : Prop := okS s ∧ markE (rawM s) = 0 ∧ str (markL (rawM s)) = s
instance (s : ByteArray) : Decidable (decOk s) := by unfold decOk; infer_instance
def zeroM : Mrk := ⟨0, 0, 0, [], []⟩
def decM (s : ByteArray) : Mrk := if decOk s then rawM s else zeroM
def decE (s : ByteArray) : Int := if decOk s then 0 else 1
theorem bt_over (s : ByteArray) {i : Nat} (h : s.size ≤ i) : bt s i = 0 := by
  have h' : s.data.toList.length ≤ i := by simpa using h
  simp [bt, List.getD_eq_getElem?_getD, List.getElem?_eq_none h']
theorem fitL_getD (l : List UInt8) (i : Nat) (h : i < 32) : (fitL l).getD i 0 = l.getD i 0 := by
  unfold fitL
  simp only [List.getD_eq_getElem?_getD]
  by_cases hl : i < l.length
  · rw [List.getElem?_append_left (by rw [List.length_take]; omega), List.getElem?_take, if_pos h]
  · rw [List.getElem?_append_right (by rw [List.length_take]; omega), List.getElem?_replicate, List.getElem?_eq_none (by omega)]
    split <;> rfl
theorem bt_str (l : List UInt8) (i : Nat) : bt (str l) i = l.getD i 0 := by simp [bt, str]
theorem enc_iff (m : Mrk) (s : ByteArray) : str (markL m) = s ↔ s.size = 32 ∧ ∀ i, i < 32 → bt s i = (headL m ++ bodyL m).getD i 0 := by
  constructor
  · rintro rfl
    refine ⟨by rw [str_size, markL_len], fun i hi => ?_⟩
    rw [bt_str, markL, fitL_getD _ _ hi]
  · rintro ⟨h1, h2⟩
    have hl : s.data.toList.length = 32 := by simpa using h1
    have : s.data.toList = markL m := by
      refine List.ext_getElem (by rw [hl, markL_len]) fun i h3 h4 => ?_
      have h5 := h2 i (by omega)
      rw [← fitL_getD _ _ (by omega : i < 32)] at h5
      simp only [bt, List.getD_eq_getElem?_getD, List.getElem?_eq_getElem h3] at h5
      unfold markL
      unfold markL at h4
      rw [List.getElem?_eq_getElem h4] at h5
      simpa using h5
    rw [← this, str_toList]
theorem head_len (m : Mrk) : (headL m).length = 9 := rfl
theorem head_body (m : Mrk) (j : Nat) : (headL m ++ bodyL m).getD (9 + j) 0 = (bodyL m).getD j 0 := by
  simp only [List.getD_eq_getElem?_getD]
  rw [List.getElem?_append_right (by rw [head_len]; omega), head_len, Nat.add_sub_cancel_left]
theorem head_head (m : Mrk) (j : Nat) (h : j < 9) : (headL m ++ bodyL m).getD j 0 = (headL m).getD j 0 := by
  simp only [List.getD_eq_getElem?_getD]
  rw [List.getElem?_append_left (by rw [head_len]; omega)]
theorem tagB_getD (tags : List Tag) : ∀ i, (tags.flatMap tagB).getD (2 * i) 0 = (match tags[i]? with | some t => byte t.block | none => 0) ∧ (tags.flatMap tagB).getD (2 * i + 1) 0 = (match tags[i]? with | some t => if t.esc then 1 else 0 | none => 0) := by
  induction tags with
  | nil => intro i; simp
  | cons t ts ih =>
    intro i
    cases i with
    | zero => simp [tagB]
    | succ i =>
      have := ih i
      simp only [List.flatMap_cons, List.getElem?_cons_succ]
      rw [show 2 * (i + 1) = (2 * i) + 2 by omega, show 2 * i + 2 + 1 = (2 * i + 1) + 2 by omega]
      simpa [tagB] using this
/-- The bytes ahead: what they say of the mark that is read out of them. -/
theorem head_raw (s : ByteArray) (h : okS s) (j : Nat) (hj : j < 9) : (headL (rawM s)).getD j 0 = bt s j := by
  obtain ⟨h1, h2⟩ := h
  have hm : ∀ k, k < 4 → bt s k = magic.getD k 0 := by
    intro k hk
    rw [← h2]
    simp only [bt, List.getD_eq_getElem?_getD, List.getElem?_take, if_pos hk]
  have e5 : byte ((rawM s).seq / 16777216) = bt s 5 := by
    rw [← byte_nb]; congr 1
    show seqOf s / 16777216 = nb s 5
    have a6 := nb_nonneg s 6; have b6 := nb_lt s 6; have a7 := nb_nonneg s 7; have b7 := nb_lt s 7; have a8 := nb_nonneg s 8; have b8 := nb_lt s 8
    unfold seqOf; omega
  have bm : ∀ (n k : Int), byte (n + 256 * k) = byte n := fun n k => by unfold byte; rw [Int.add_mul_emod_self_left]
  have e6 : byte ((rawM s).seq / 65536) = bt s 6 := by
    rw [← byte_nb, ← bm (nb s 6) (nb s 5)]; congr 1
    show seqOf s / 65536 = nb s 6 + 256 * nb s 5
    have a6 := nb_nonneg s 6; have b6 := nb_lt s 6; have a7 := nb_nonneg s 7; have b7 := nb_lt s 7; have a8 := nb_nonneg s 8; have b8 := nb_lt s 8
    unfold seqOf; omega
  have e7 : byte ((rawM s).seq / 256) = bt s 7 := by
    rw [← byte_nb, ← bm (nb s 7) (nb s 6 + 256 * nb s 5)]; congr 1
    show seqOf s / 256 = nb s 7 + 256 * (nb s 6 + 256 * nb s 5)
    have a6 := nb_nonneg s 6; have b6 := nb_lt s 6; have a7 := nb_nonneg s 7; have b7 := nb_lt s 7; have a8 := nb_nonneg s 8; have b8 := nb_lt s 8
    unfold seqOf; omega
  have e8 : byte ((rawM s).seq) = bt s 8 := by
    rw [← byte_nb, ← bm (nb s 8) (nb s 7 + 256 * (nb s 6 + 256 * nb s 5))]; congr 1
    show seqOf s = nb s 8 + 256 * (nb s 7 + 256 * (nb s 6 + 256 * nb s 5))
    unfold seqOf; omega
  have e4 : byte ((rawM s).kind) = bt s 4 := byte_nb s 4
  match j, hj with
  | 0, _ => exact (hm 0 (by decide)).symm
  | 1, _ => exact (hm 1 (by decide)).symm
  | 2, _ => exact (hm 2 (by decide)).symm
  | 3, _ => exact (hm 3 (by decide)).symm
  | 4, _ => exact e4
  | 5, _ => exact e5
  | 6, _ => exact e6
  | 7, _ => exact e7
  | 8, _ => exact e8
/-- A good mark's bytes are its bytes just if all behind the head are as its body has them. -/
theorem raw_iff (s : ByteArray) (h : okS s) : str (markL (rawM s)) = s ↔ ∀ j, j < 23 → bt s (9 + j) = (bodyL (rawM s)).getD j 0 := by
  rw [enc_iff]
  constructor
  · rintro ⟨_, h2⟩ j hj
    rw [h2 _ (by omega), head_body]
  · intro h2
    refine ⟨h.1, fun i hi => ?_⟩
    by_cases h9 : i < 9
    · rw [head_head _ _ h9, head_raw s h i h9]
    · obtain ⟨j, rfl⟩ : ∃ j, i = 9 + j := ⟨i - 9, by omega⟩
      rw [head_body, h2 j (by omega)]
end Wb

namespace Wb
open Go Go.RowKit
theorem byte_small {n : Int} (h0 : 0 ≤ n) (h1 : n < 256) : ((byte n).toNat : Int) = n := by rw [byte_val, Int.emod_eq_of_lt h0 h1]
theorem body1 {m : Mrk} (h : m.kind = 1) : bodyL m = [byte m.at_] := by unfold bodyL; rw [if_pos h]
theorem body2 {m : Mrk} (h : m.kind = 2) : bodyL m = byte m.tags.length :: m.tags.flatMap tagB := by unfold bodyL; rw [if_neg (by omega), if_pos h]; rfl
theorem body3 {m : Mrk} (h : m.kind = 3) : bodyL m = byte m.blocks.length :: m.blocks.map byte := by unfold bodyL; rw [if_neg (by omega), if_neg (by omega), if_pos h]; rfl
theorem body4 {m : Mrk} (h1 : m.kind ≠ 1) (h2 : m.kind ≠ 2) (h3 : m.kind ≠ 3) : bodyL m = [] := by unfold bodyL; rw [if_neg h1, if_neg h2, if_neg h3]
def endOf (s : ByteArray) : Nat := if nb s 4 = 1 then 10 else if nb s 4 = 2 then 10 + 2 * cnt s else if nb s 4 = 3 then 10 + cnt s else 9
def flagsOk (s : ByteArray) : Prop := cnt s ≤ 10 ∧ ∀ i, i < cnt s → nb s (11 + 2 * i) ≤ 1
def refOk (s : ByteArray) : Prop := okS s ∧ (nb s 4 = 2 → flagsOk s) ∧ (nb s 4 = 3 → cnt s ≤ 20) ∧ markE (rawM s) = 0 ∧ ∀ i, endOf s ≤ i → i < 32 → bt s i = 0
theorem cnt_nb (s : ByteArray) : (cnt s : Int) = nb s 9 := rfl
theorem byte_cnt (s : ByteArray) : byte (cnt s : Int) = bt s 9 := byte_nb s 9
theorem bt_le1 {s : ByteArray} {i : Nat} (h : nb s i ≤ 1) : bt s i = if nb s i = 1 then 1 else 0 := by
  have h0 := nb_nonneg s i
  apply UInt8.toNat_inj.1
  unfold nb at *
  split <;> simp <;> omega
theorem bt_flag {s : ByteArray} {i : Nat} {b : Bool} (h : bt s i = if b then 1 else 0) : nb s i ≤ 1 := by
  unfold nb; rw [h]; cases b <;> simp
theorem raw_tags_at (s : ByteArray) {n i : Nat} (h : i < n) : (rawTags s n)[i]? = some (tagAt s i) := by simp [rawTags, h]
theorem raw_tags_no (s : ByteArray) {n i : Nat} (h : ¬ i < n) : (rawTags s n)[i]? = none := by simp [rawTags]; omega
theorem even_odd (k : Nat) : ∃ i, k = 2 * i ∨ k = 2 * i + 1 := ⟨k / 2, by omega⟩
theorem mono_len {m : Mrk} (h : markE m = 0) : m.tags.length ≤ 10 ∧ m.blocks.length ≤ 20 := by
  obtain ⟨_, _, _, h4⟩ := markE_good h
  unfold badLen at h4; omega
theorem end_ge (s : ByteArray) : 9 ≤ endOf s := by
  unfold endOf
  repeat (split <;> first | omega | skip)
theorem ref_iff (s : ByteArray) : refOk s ↔ decOk s := by
  constructor
  · rintro ⟨hok, hf, hb, hE, hz⟩
    refine ⟨hok, hE, (raw_iff s hok).2 fun j hj => ?_⟩
    by_cases k1 : nb s 4 = 1
    · rw [body1 (m := rawM s) k1, show (rawM s).at_ = nb s 9 by simp [rawM, k1], byte_nb]
      cases j with
      | zero => rfl
      | succ j => rw [hz _ (by simp [endOf, k1]; omega) (by omega)]; rfl
    · by_cases k2 : nb s 4 = 2
      · obtain ⟨h10, hfl⟩ := hf k2
        have ht : (rawM s).tags = rawTags s (cnt s) := by simp [rawM, k2]; rw [Nat.min_eq_left (by omega)]
        have he : endOf s = 10 + 2 * cnt s := by simp [endOf, k2]
        rw [body2 (m := rawM s) k2, ht, rawTags_len]
        cases j with
        | zero => exact (byte_cnt s).symm
        | succ j =>
          simp only [List.getD_cons_succ]
          obtain ⟨i, rfl | rfl⟩ := even_odd j
          · rw [(tagB_getD _ i).1]
            by_cases hi : i < cnt s
            · rw [raw_tags_at s hi]; show _ = byte (nb s (10 + 2 * i)); rw [byte_nb]; congr 1; omega
            · rw [raw_tags_no s hi]; exact hz _ (by omega) (by omega)
          · rw [(tagB_getD _ i).2]
            by_cases hi : i < cnt s
            · rw [raw_tags_at s hi]; show _ = if decide (nb s (11 + 2 * i) = 1) = true then (1 : UInt8) else 0
              rw [show 9 + (2 * i + 1 + 1) = 11 + 2 * i by omega, bt_le1 (hfl i hi)]
              simp
            · rw [raw_tags_no s hi]; exact hz _ (by omega) (by omega)
      · by_cases k3 : nb s 4 = 3
        · have h20 := hb k3
          have hbl : (rawM s).blocks = rawBlks s (cnt s) := by simp [rawM, k3]; rw [Nat.min_eq_left (by omega)]
          have he : endOf s = 10 + cnt s := by simp [endOf, k3]
          rw [body3 (m := rawM s) k3, hbl, rawBlks_len]
          cases j with
          | zero => exact (byte_cnt s).symm
          | succ j =>
            simp only [List.getD_cons_succ]
            by_cases hi : j < cnt s
            · simp [rawBlks, List.getD_eq_getElem?_getD, hi, byte_nb]; congr 1; omega
            · rw [hz _ (by omega) (by omega)]; simp [rawBlks, List.getD_eq_getElem?_getD, hi]
        · rw [body4 (m := rawM s) k1 k2 k3]
          rw [hz _ (by simp [endOf, k1, k2, k3]) (by omega)]; rfl
  · rintro ⟨hok, hE, hs⟩
    have hj := (raw_iff s hok).1 hs
    have hlen := mono_len hE
    refine ⟨hok, fun k2 => ?_, fun k3 => ?_, hE, fun i hi h32 => ?_⟩
    · have ht : (rawM s).tags = rawTags s (min (cnt s) 11) := by simp [rawM, k2]
      have hle : min (cnt s) 11 ≤ 10 := by have := hlen.1; rw [ht, rawTags_len] at this; exact this
      have h10 : cnt s ≤ 10 := by omega
      rw [Nat.min_eq_left (by omega)] at ht
      refine ⟨h10, fun i hi => ?_⟩
      have h1 := hj (2 + 2 * i) (by omega)
      rw [body2 (m := rawM s) k2, ht, show 2 + 2 * i = (2 * i + 1) + 1 by omega, List.getD_cons_succ, (tagB_getD _ i).2, raw_tags_at s hi, show 9 + (2 * i + 1 + 1) = 11 + 2 * i by omega] at h1
      exact bt_flag h1
    · have hbl : (rawM s).blocks = rawBlks s (min (cnt s) 22) := by simp [rawM, k3]
      have := hlen.2; rw [hbl, rawBlks_len] at this; omega
    · obtain ⟨j, rfl⟩ : ∃ j, i = 9 + j := ⟨i - 9, by have h9 : 9 ≤ endOf s := end_ge s; omega⟩
      rw [hj j (by omega)]
      have key : (bodyL (rawM s)).length ≤ j := by
        unfold endOf at hi
        by_cases k1 : nb s 4 = 1
        · rw [if_pos k1] at hi; rw [body1 (m := rawM s) k1]; simp; omega
        · rw [if_neg k1] at hi
          by_cases k2 : nb s 4 = 2
          · rw [if_pos k2] at hi; rw [body2 (m := rawM s) k2, show (rawM s).tags = rawTags s (min (cnt s) 11) by simp [rawM, k2], List.length_cons, tagBs_len, rawTags_len]; omega
          · rw [if_neg k2] at hi
            by_cases k3 : nb s 4 = 3
            · rw [if_pos k3] at hi; rw [body3 (m := rawM s) k3, show (rawM s).blocks = rawBlks s (min (cnt s) 22) by simp [rawM, k3], List.length_cons, List.length_map, rawBlks_len]; omega
            · rw [if_neg k3] at hi; rw [body4 (m := rawM s) k1 k2 k3]; simp
      simp only [List.getD_eq_getElem?_getD]
      rw [List.getElem?_eq_none key]; rfl
theorem good_rise {m : Mrk} (h : markE m = 0) : rise (m.tags.map (·.block)) = true ∧ rise m.blocks = true := by
  obtain ⟨h1, h2, h3, h4⟩ := markE_good h
  by_cases h5 : badRise m
  · rw [markE_rise h1 h2 h3 h5] at h; exact absurd h (by decide)
  · unfold badRise at h5
    constructor
    · by_cases hh : rise (m.tags.map (·.block)) = false
      · exact absurd (.inl hh) h5
      · simpa using hh
    · by_cases hh : rise m.blocks = false
      · exact absurd (.inr hh) h5
      · simpa using hh
theorem rise_at {l : List Int} (h : rise l = true) {k : Nat} (hk : k < l.length) : 0 ≤ l[k] ∧ l[k] < 12 := by
  have := (rise_iff l).1 h k hk
  unfold riseAt at this
  rw [show l.getD k 0 = l[k] by simp [hk]] at this
  exact ⟨this.1, this.2.1⟩
/-- A good mark comes back out of its bytes. -/
theorem raw_enc {m : Mrk} (h : markE m = 0) : okS (str (markL m)) ∧ rawM (str (markL m)) = m := by
  obtain ⟨g1, g2, g3, g4⟩ := markE_good h
  obtain ⟨r1, r2⟩ := good_rise h
  have hb := ((enc_iff m (str (markL m))).1 rfl)
  generalize str (markL m) = s at hb
  obtain ⟨hsz, hb⟩ := hb
  have hh : ∀ j, j < 9 → bt s j = (headL m).getD j 0 := fun j hj => by rw [hb j (by omega), head_head _ _ hj]
  have hbd : ∀ j, j < 23 → bt s (9 + j) = (bodyL m).getD j 0 := fun j hj => by rw [hb _ (by omega), head_body]
  obtain ⟨kind, seq, at_, tags, blocks⟩ := m
  unfold badKind badNum badForm badLen at *
  dsimp only at *
  have n4 : nb s 4 = kind := by unfold nb; rw [hh 4 (by decide)]; exact byte_small (n := kind) (by omega) (by omega)
  have n5 : nb s 5 = (seq / 16777216) % 256 := by unfold nb; rw [hh 5 (by decide)]; exact byte_val _
  have n6 : nb s 6 = (seq / 65536) % 256 := by unfold nb; rw [hh 6 (by decide)]; exact byte_val _
  have n7 : nb s 7 = (seq / 256) % 256 := by unfold nb; rw [hh 7 (by decide)]; exact byte_val _
  have n8 : nb s 8 = seq % 256 := by unfold nb; rw [hh 8 (by decide)]; exact byte_val _
  have hseq : seqOf s = seq := by unfold seqOf; rw [n5, n6, n7, n8]; omega
  have hl : s.data.toList.length = 32 := by simpa using hsz
  refine ⟨⟨hsz, ?_⟩, ?_⟩
  · refine List.ext_getElem (by simp [hl, magic]) fun i h3 h4 => ?_
    have hi : i < 4 := h4
    have h5 := hh i (by omega)
    simp only [bt, List.getD_eq_getElem?_getD, List.getElem?_eq_getElem (show i < s.data.toList.length by omega)] at h5
    rw [List.getElem_take]
    rw [show ((headL ⟨kind, seq, at_, tags, blocks⟩)[i]?).getD 0 = magic[i]'h4 by
      simp only [headL]; rw [List.getElem?_append_left (by exact h4), List.getElem?_eq_getElem h4]; rfl] at h5
    simpa using h5
  · unfold rawM
    rw [n4, hseq]
    simp only [Mrk.mk.injEq, true_and]
    by_cases k1 : kind = 1
    · have h9 := hbd 0 (by decide)
      rw [body1 (m := ⟨kind, seq, at_, tags, blocks⟩) k1] at h9
      have : nb s 9 = at_ := by unfold nb; rw [h9]; exact byte_small (n := at_) (by omega) (by omega)
      rw [if_pos k1, if_neg (by omega), if_neg (by omega)]
      exact ⟨this, (List.eq_nil_of_length_eq_zero (by omega)).symm, (List.eq_nil_of_length_eq_zero (by omega)).symm⟩
    · rw [if_neg k1]
      refine ⟨by omega, ?_, ?_⟩
      · by_cases k2 : kind = 2
        · rw [if_pos k2]
          have h9 := hbd 0 (by decide)
          rw [body2 (m := ⟨kind, seq, at_, tags, blocks⟩) k2] at h9
          have hc : cnt s = tags.length := by
            have : ((bt s 9).toNat : Int) = tags.length := by rw [h9]; exact byte_small (n := tags.length) (by omega) (by omega)
            unfold cnt; omega
          rw [hc, Nat.min_eq_left (by omega)]
          refine List.ext_getElem (rawTags_len _ _) fun i h3 h4 => ?_
          have e1 := hbd (2 * i + 1) (by omega)
          have e2 := hbd (2 * i + 1 + 1) (by omega)
          rw [body2 (m := ⟨kind, seq, at_, tags, blocks⟩) k2, List.getD_cons_succ] at e1 e2
          rw [(tagB_getD _ i).1] at e1
          rw [(tagB_getD _ i).2] at e2
          simp only [List.getElem?_eq_getElem h4] at e1 e2
          have hr := rise_at r1 (k := i) (by simpa using h4)
          simp only [List.getElem_map] at hr
          have f1 : nb s (10 + 2 * i) = tags[i].block := by unfold nb; rw [show 10 + 2 * i = 9 + (2 * i + 1) by omega, e1]; exact byte_small (by omega) (by omega)
          have f2 : decide (nb s (11 + 2 * i) = 1) = tags[i].esc := by
            unfold nb; rw [show 11 + 2 * i = 9 + (2 * i + 1 + 1) by omega, e2]
            cases tags[i].esc <;> simp
          simp only [rawTags, List.getElem_map, List.getElem_range, tagAt, f1, f2]
        · rw [if_neg k2]; exact (List.eq_nil_of_length_eq_zero (by omega)).symm
      · by_cases k3 : kind = 3
        · rw [if_pos k3]
          have h9 := hbd 0 (by decide)
          rw [body3 (m := ⟨kind, seq, at_, tags, blocks⟩) k3] at h9
          have hc : cnt s = blocks.length := by
            have : ((bt s 9).toNat : Int) = blocks.length := by rw [h9]; exact byte_small (n := blocks.length) (by omega) (by omega)
            unfold cnt; omega
          rw [hc, Nat.min_eq_left (by omega)]
          refine List.ext_getElem (rawBlks_len _ _) fun i h3 h4 => ?_
          have e1 := hbd (i + 1) (by omega)
          rw [body3 (m := ⟨kind, seq, at_, tags, blocks⟩) k3, List.getD_cons_succ] at e1
          have hr := rise_at r2 (k := i) h4
          have f1 : nb s (10 + i) = blocks[i] := by
            unfold nb; rw [show 10 + i = 9 + (i + 1) by omega, e1]
            simp only [List.getD_eq_getElem?_getD, List.getElem?_map, List.getElem?_eq_getElem h4, Option.map_some, Option.getD_some]
            exact byte_small (by omega) (by omega)
          simp only [rawBlks, List.getElem_map, List.getElem_range, f1]
        · rw [if_neg k3]; exact (List.eq_nil_of_length_eq_zero (by omega)).symm
theorem dec_yes {s : ByteArray} (h : decOk s) : decM s = rawM s ∧ decE s = 0 ∧ markE (rawM s) = 0 ∧ markS (rawM s) = s :=
  ⟨if_pos h, if_pos h, h.2.1, by unfold markS; rw [if_pos h.2.1]; exact h.2.2⟩
theorem dec_no {s : ByteArray} (h : ¬ decOk s) : decM s = zeroM ∧ decE s = 1 := ⟨if_neg h, if_neg h⟩
theorem dec_no2 {s : ByteArray} (h : ¬ decOk s) (hs : okS s) : markE (rawM s) ≠ 0 ∨ markE (rawM s) = 0 ∧ markS (rawM s) ≠ s := by
  by_cases h1 : markE (rawM s) = 0
  · refine .inr ⟨h1, fun h2 => h ⟨hs, h1, ?_⟩⟩
    unfold markS at h2
    rwa [if_pos h1] at h2
  · exact .inl h1
theorem raw1 {s : ByteArray} (h : nb s 4 = 1) : rawM s = ⟨1, seqOf s, nb s 9, [], []⟩ := by simp [rawM, h]
theorem raw2 {s : ByteArray} (h : nb s 4 = 2) : rawM s = ⟨2, seqOf s, 0, rawTags s (min (cnt s) 11), []⟩ := by simp [rawM, h]
theorem raw3 {s : ByteArray} (h : nb s 4 = 3) : rawM s = ⟨3, seqOf s, 0, [], rawBlks s (min (cnt s) 22)⟩ := by simp [rawM, h]
theorem raw4 {s : ByteArray} (h1 : nb s 4 ≠ 1) (h2 : nb s 4 ≠ 2) (h3 : nb s 4 ≠ 3) : rawM s = ⟨nb s 4, seqOf s, 0, [], []⟩ := by simp [rawM, h1, h2, h3]
/-- A mark's bytes are read as it was. -/
theorem dec_enc {m : Mrk} (h : markE m = 0) : decOk (str (markL m)) ∧ decM (str (markL m)) = m ∧ decE (str (markL m)) = 0 := by
  obtain ⟨h1, h2⟩ := raw_enc h
  have : decOk (str (markL m)) := ⟨h1, by rw [h2]; exact h, by rw [h2]⟩
  exact ⟨this, by unfold decM; rw [if_pos this, h2], by unfold decE; rw [if_pos this]⟩
end Wb

namespace Wb
open Go Go.RowKit
/-- The copies that follow a descriptor. -/
def takeTags : List Tag → List ByteArray → List Cpy → Option (List Cpy × List ByteArray)
  | [], r, mt => some (mt, r)
  | _ :: _, [], _ => none
  | g :: gs, s :: r, mt => takeTags gs r (mt ++ [⟨g.block, unescS s g.esc⟩])
/-- The transaction of a number that blocks begin with, and what follows. -/
def parseT (seq : Int) : Nat → List ByteArray → Txn → Option (Txn × List ByteArray)
  | 0, _, _ => none
  | _ + 1, [], _ => none
  | n + 1, s :: r, t =>
    if decE s = 0 ∧ (decM s).seq = seq then
      if (decM s).kind = 4 then some (t, r)
      else if (decM s).kind = 3 then parseT seq n r { t with rev := t.rev ++ (decM s).blocks }
      else if (decM s).kind = 2 then
        match takeTags (decM s).tags r t.mt with
        | some (mt, r') => parseT seq n r' { t with mt := mt }
        | none => none
      else none
    else none
theorem takeTags_len {gs : List Tag} {r r' : List ByteArray} {mt mt' : List Cpy} (h : takeTags gs r mt = some (mt', r')) : r'.length + gs.length = r.length ∧ mt'.length = mt.length + gs.length := by
  induction gs generalizing r mt with
  | nil =>
    simp only [takeTags, Option.some.injEq, Prod.mk.injEq] at h
    obtain ⟨rfl, rfl⟩ := h
    exact ⟨rfl, rfl⟩
  | cons g gs ih =>
    cases r with
    | nil => cases h
    | cons s r =>
      have := ih h
      simp only [List.length_cons, List.length_append, List.length_nil] at this ⊢
      omega
theorem parseT_len {seq : Int} {n : Nat} {r r' : List ByteArray} {t t' : Txn} (h : parseT seq n r t = some (t', r')) : r'.length < r.length := by
  induction n generalizing r t with
  | zero => cases h
  | succ n ih =>
    cases r with
    | nil => cases h
    | cons s r =>
      unfold parseT at h
      by_cases h1 : decE s = 0 ∧ (decM s).seq = seq
      · rw [if_pos h1] at h
        by_cases h2 : (decM s).kind = 4
        · rw [if_pos h2] at h
          simp only [Option.some.injEq, Prod.mk.injEq] at h
          rw [← h.2]
          exact Nat.lt_succ_self _
        · rw [if_neg h2] at h
          by_cases h3 : (decM s).kind = 3
          · rw [if_pos h3] at h
            have := ih h
            simp only [List.length_cons]; omega
          · rw [if_neg h3] at h
            by_cases h4 : (decM s).kind = 2
            · rw [if_pos h4] at h
              cases hm : takeTags (decM s).tags r t.mt with
              | none => rw [hm] at h; cases h
              | some p =>
                obtain ⟨mt, r2⟩ := p
                rw [hm] at h
                have h5 := takeTags_len hm
                have := ih h
                simp only [List.length_cons]; omega
            · rw [if_neg h4] at h; cases h
      · rw [if_neg h1] at h; cases h
/-- Enough fuel is enough. -/
theorem parseT_fuel {seq : Int} {n m : Nat} {r : List ByteArray} {t : Txn} (hn : r.length < n) (hm : r.length < m) : parseT seq n r t = parseT seq m r t := by
  induction n generalizing m r t with
  | zero => omega
  | succ n ih =>
    cases m with
    | zero => omega
    | succ m =>
      cases r with
      | nil => rfl
      | cons s r =>
        simp only [List.length_cons] at hn hm
        unfold parseT
        split
        · split
          · rfl
          · split
            · exact ih (by omega) (by omega)
            · split
              · cases hk : takeTags (decM s).tags r t.mt with
                | none => rfl
                | some p =>
                  have h5 := takeTags_len hk
                  exact ih (by omega) (by omega)
              · rfl
        · rfl
structure Fnd where
  txns : List Txn
  next : Int
  at_ : Int
/-- The transactions that count, from a number on; the number behind them; what is left of the log. -/
def scanGo : Nat → List ByteArray → Int → List Txn × Int × List ByteArray
  | 0, r, n => ([], n, r)
  | k + 1, r, n =>
    if n < 2147483647 then
      match parseT n 25 r (txn0 n) with
      | some (t, r') => (t :: (scanGo k r' (n + 1)).1, (scanGo k r' (n + 1)).2)
      | none => ([], n, r)
    else ([], n, r)
/-- The log of a disk from a place on. -/
def logL (d : Dsk) (a : Int) : List ByteArray := (List.range 24).map fun (i : Nat) => readD d (1 + (a + (i : Int)) % 24)
theorem logL_len (d : Dsk) (a : Int) : (logL d a).length = 24 := by simp [logL]
def scanE (d : Dsk) : Int := if readE d 0 = 0 then (if decE (readD d 0) = 0 ∧ (decM (readD d 0)).kind = 1 then 0 else 1) else 2
def scanF (d : Dsk) : Fnd :=
  if scanE d = 0 then
    ⟨(scanGo 25 (logL d (decM (readD d 0)).at_) (decM (readD d 0)).seq).1, (scanGo 25 (logL d (decM (readD d 0)).at_) (decM (readD d 0)).seq).2.1, ((decM (readD d 0)).at_ + (24 - ((scanGo 25 (logL d (decM (readD d 0)).at_) (decM (readD d 0)).seq).2.2.length : Int))) % 24⟩
  else ⟨[], 0, 0⟩
end Wb

namespace Wb
open Go Go.RowKit
/-- What is left of the log of a disk. -/
def sfx (d : Dsk) (A : Int) (r : List ByteArray) : Prop := r = (logL d A).drop (24 - r.length) ∧ r.length ≤ 24
theorem sfx_all (d : Dsk) (A : Int) : sfx d A (logL d A) := by
  unfold sfx
  rw [logL_len]
  exact ⟨rfl, Nat.le_refl _⟩
theorem sfx_cons {d : Dsk} {A : Int} {s : ByteArray} {r : List ByteArray} (h : sfx d A (s :: r)) : sfx d A r ∧ readD d (1 + (A + (24 - ((r.length + 1 : Nat) : Int))) % 24) = s ∧ r.length < 24 := by
  obtain ⟨h1, h2⟩ := h
  simp only [List.length_cons] at h1 h2
  have hlt : 24 - (r.length + 1) < (logL d A).length := by rw [logL_len]; omega
  rw [List.drop_eq_getElem_cons hlt] at h1
  simp only [List.cons.injEq] at h1
  refine ⟨⟨?_, by omega⟩, ?_, by omega⟩
  · have := h1.2
    rw [show 24 - (r.length + 1) + 1 = 24 - r.length by omega] at this
    exact this
  · rw [h1.1]
    simp only [logL, List.getElem_map, List.getElem_range]
    congr 3
    omega
/-- A mark that is read has few tags and blocks. -/
theorem dec_bds {s : ByteArray} (h : decE s = 0) : (decM s).tags.length ≤ 10 ∧ (decM s).blocks.length ≤ 20 ∧ 0 ≤ (decM s).at_ ∧ (decM s).at_ < 24 ∧ 1 ≤ (decM s).seq ∧ (decM s).seq ≤ 2147483647 := by
  have hd : decOk s := by
    by_cases hd : decOk s
    · exact hd
    · rw [(dec_no hd).2] at h; cases h
  obtain ⟨e1, _, e2, _⟩ := dec_yes hd
  rw [e1]
  generalize rawM s = m at *
  have k1 : ¬ badKind m := fun hh => by rw [markE_kind hh] at e2; cases e2
  have k2 : ¬ badNum m := fun hh => by rw [markE_num k1 hh] at e2; cases e2
  have k3 : ¬ badForm m := fun hh => by rw [markE_form k1 k2 hh] at e2; cases e2
  have k4 : ¬ badLen m := fun hh => by rw [markE_len k1 k2 k3 hh] at e2; cases e2
  unfold badNum at k2
  unfold badLen at k4
  omega
end Wb

namespace Wb
open Go Go.RowKit
theorem lastT_size (n : Int) : ∀ (ws : List Wr) (s : ByteArray), s.size ≤ 32 → ws.all wrOk = true → (lastT s n ws).size ≤ 32
  | [], s, h, _ => h
  | x :: ws, s, h, hw => by
    simp only [List.all_cons, Bool.and_eq_true] at hw
    have e : lastT s n (x :: ws) = lastT (if x.at_ = n then x.text else s) n ws := rfl
    rw [e]
    refine lastT_size n ws _ ?_ hw.2
    split
    · have := hw.1
      unfold wrOk at this
      simp only [Bool.and_eq_true] at this
      have : x.text.size = 32 := of_decide_eq_true this.2
      omega
    · exact h
theorem readD_size (d : Dsk) (n : Int) : (readD d n).size ≤ 32 := by
  unfold readD
  split
  · rename_i h
    obtain ⟨h1, h2, h3, h4⟩ := (goodD_iff d).1 h.1
    refine lastT_size n _ _ ?_ h4
    unfold safeAt
    rw [List.getD_eq_getElem?_getD]
    cases hk : d.safe[n.toNat]? with
    | none => exact Nat.zero_le _
    | some s =>
      have := List.all_eq_true.1 h3 s (List.mem_of_getElem? hk)
      have : s.size = 32 := of_decide_eq_true this
      simp only [Option.getD_some]
      omega
  · exact Nat.zero_le _
theorem logL_size (d : Dsk) (A : Int) : ∀ s ∈ logL d A, s.size ≤ 9223372036854775807 := by
  intro s hs
  unfold logL at hs
  obtain ⟨i, _, rfl⟩ := List.mem_map.1 hs
  have := readD_size d (1 + (A + (i : Int)) % 24)
  omega
theorem parseT_nil (seq : Int) (n : Nat) (t : Txn) : parseT seq n [] t = none := by cases n <;> rfl
theorem scanGo_fuel {n m : Nat} {r : List ByteArray} {x : Int} (hn : r.length < n) (hm : r.length < m) : scanGo n r x = scanGo m r x := by
  induction n generalizing m r x with
  | zero => omega
  | succ n ih =>
    cases m with
    | zero => omega
    | succ m =>
      unfold scanGo
      split
      · cases hp : parseT x 25 r (txn0 x) with
        | none => rfl
        | some p =>
          obtain ⟨t, r'⟩ := p
          have hl := parseT_len hp
          have e : scanGo n r' (x + 1) = scanGo m r' (x + 1) := ih (by omega) (by omega)
          show (t :: (scanGo n r' (x + 1)).1, (scanGo n r' (x + 1)).2) = (t :: (scanGo m r' (x + 1)).1, (scanGo m r' (x + 1)).2)
          rw [e]
      · rfl
theorem parseT_sfx {d : Dsk} {A : Int} {seq : Int} {n : Nat} {r r' : List ByteArray} {t t' : Txn} (h : parseT seq n r t = some (t', r')) (hs : sfx d A r) : sfx d A r' := by
  induction n generalizing r t with
  | zero => cases h
  | succ n ih =>
    cases r with
    | nil => cases h
    | cons s r =>
      obtain ⟨h1, _, _⟩ := sfx_cons hs
      have key : ∀ (gs : List Tag) (r1 r2 : List ByteArray) (m1 m2 : List Cpy), takeTags gs r1 m1 = some (m2, r2) → sfx d A r1 → sfx d A r2 := by
        intro gs
        induction gs with
        | nil =>
          intro r1 r2 m1 m2 hh h5
          simp only [takeTags, Option.some.injEq, Prod.mk.injEq] at hh
          rw [← hh.2]; exact h5
        | cons g gs ihg =>
          intro r1 r2 m1 m2 hh h5
          cases r1 with
          | nil => cases hh
          | cons s1 r1 => exact ihg _ _ _ _ hh (sfx_cons h5).1
      unfold parseT at h
      split at h
      · split at h
        · simp only [Option.some.injEq, Prod.mk.injEq] at h
          rw [← h.2]; exact h1
        · split at h
          · exact ih h h1
          · split at h
            · cases hm : takeTags (decM s).tags r t.mt with
              | none => rw [hm] at h; cases h
              | some p =>
                obtain ⟨mt, r2⟩ := p
                rw [hm] at h
                exact ih h (key _ _ _ _ _ hm h1)
            · cases h
      · cases h
theorem parseT_sub {seq : Int} {n : Nat} {r r' : List ByteArray} {t t' : Txn} (h : parseT seq n r t = some (t', r')) : ∀ s ∈ r', s ∈ r := by
  induction n generalizing r t with
  | zero => cases h
  | succ n ih =>
    cases r with
    | nil => cases h
    | cons s r =>
      have key : ∀ (gs : List Tag) (r1 r2 : List ByteArray) (m1 m2 : List Cpy), takeTags gs r1 m1 = some (m2, r2) → ∀ s ∈ r2, s ∈ r1 := by
        intro gs
        induction gs with
        | nil =>
          intro r1 r2 m1 m2 hh s hs
          simp only [takeTags, Option.some.injEq, Prod.mk.injEq] at hh
          rw [hh.2]; exact hs
        | cons g gs ihg =>
          intro r1 r2 m1 m2 hh s hs
          cases r1 with
          | nil => cases hh
          | cons s1 r1 => exact List.mem_cons_of_mem _ (ihg _ _ _ _ hh s hs)
      intro x hx
      unfold parseT at h
      split at h
      · split at h
        · simp only [Option.some.injEq, Prod.mk.injEq] at h
          rw [← h.2] at hx; exact List.mem_cons_of_mem _ hx
        · split at h
          · exact List.mem_cons_of_mem _ (ih h x hx)
          · split at h
            · cases hm : takeTags (decM s).tags r t.mt with
              | none => rw [hm] at h; cases h
              | some p =>
                obtain ⟨mt, r2⟩ := p
                rw [hm] at h
                exact List.mem_cons_of_mem _ (key _ _ _ _ _ hm x (ih h x hx))
            · cases h
      · cases h
theorem scanGo_step {r r' : List ByteArray} {x : Int} {t : Txn} (hx : x < 2147483647) (h : parseT x 25 r (txn0 x) = some (t, r')) :
    (scanGo (r.length + 1) r x).1 = t :: (scanGo (r'.length + 1) r' (x + 1)).1 ∧ (scanGo (r.length + 1) r x).2 = (scanGo (r'.length + 1) r' (x + 1)).2 := by
  have hl := parseT_len h
  have e : scanGo (r.length + 1) r x = (t :: (scanGo r.length r' (x + 1)).1, (scanGo r.length r' (x + 1)).2) := by
    show (if x < 2147483647 then _ else _) = _
    rw [if_pos hx, h]
  rw [e, scanGo_fuel (n := r.length) (m := r'.length + 1) (by omega) (by omega)]
  exact ⟨rfl, rfl⟩
theorem scanGo_stop {r : List ByteArray} {x : Int} (h : parseT x 25 r (txn0 x) = none) : scanGo (r.length + 1) r x = ([], x, r) := by
  show (if x < 2147483647 then _ else _) = _
  split
  · rw [h]
  · rfl
theorem scanGo_full {r : List ByteArray} {x : Int} (h : ¬ x < 2147483647) : scanGo (r.length + 1) r x = ([], x, r) := by
  show (if x < 2147483647 then _ else _) = _
  rw [if_neg h]
end Wb

namespace Wb
open Go Go.RowKit
/-- The safe texts with the first k writes laid over. -/
def flushL (s : List ByteArray) (ws : List Wr) : List ByteArray := ws.foldl (fun s x => s.set x.at_.toNat x.text) s
theorem flushL_step (s : List ByteArray) (ws : List Wr) {k : Nat} (hk : k < ws.length) : flushL s (ws.take (k + 1)) = (flushL s (ws.take k)).set ws[k].at_.toNat ws[k].text := by
  unfold flushL; rw [List.take_succ_eq_append_getElem hk, List.foldl_append]; rfl
theorem flushL_len (s : List ByteArray) (ws : List Wr) : (flushL s ws).length = s.length := by
  unfold flushL
  induction ws generalizing s with
  | nil => rfl
  | cons x ws ih => rw [List.foldl_cons, ih]; simp
/-- What stands at each place behind a flush: the last text. -/
theorem flushL_get (s : List ByteArray) (ws : List Wr) (hw : ws.all wrOk = true) (n : Nat) (hn : n < s.length) : (flushL s ws)[n]? = some (lastT s[n] n ws) := by
  induction ws generalizing s with
  | nil => simp [flushL, lastT, hn]
  | cons x ws ih =>
    rw [List.all_cons, Bool.and_eq_true] at hw
    have h0 : 0 ≤ x.at_ := by
      have := hw.1
      simp only [wrOk, Bool.and_eq_true, isAt, decide_eq_true_eq] at this
      exact this.1.1
    have hx := ih (s.set x.at_.toNat x.text) hw.2 (by simpa using hn)
    simp only [flushL, lastT, List.foldl_cons] at hx ⊢
    rw [hx, List.getElem_set]
    by_cases h : x.at_ = n
    · rw [if_pos h, if_pos (by omega)]
    · rw [if_neg h, if_neg (by omega)]
def flushD (d : Dsk) : Dsk := if goodD d = true then ⟨flushL d.safe d.writes, []⟩ else d
def flushE (d : Dsk) : Int := if goodD d = true then 0 else 2
/-- The reference's flush: place by place. -/
theorem flush_ref (s : List ByteArray) (ws : List Wr) (hw : ws.all wrOk = true) : s.mapIdx (fun n x => lastT x n ws) = flushL s ws := by
  refine List.ext_getElem? fun n => ?_
  by_cases hn : n < s.length
  · rw [flushL_get s ws hw n hn]; simp [hn]
  · rw [List.getElem?_eq_none (by simpa using hn), List.getElem?_eq_none (by rw [flushL_len]; omega)]
theorem mapIdx_take {α β : Type} (f : Nat → α → β) (l : List α) {k : Nat} (hk : k < l.length) : (l.mapIdx f).take (k + 1) = (l.mapIdx f).take k ++ [f k l[k]] := by
  rw [List.take_succ_eq_append_getElem (by simpa using hk)]; simp
theorem putE_zero {d : Dsk} {n : Int} {t : ByteArray} (h : putE d n t = 0) : goodD d = true ∧ isAt n = true ∧ t.size = 32 ∧ ¬ 200 ≤ d.writes.length := by
  unfold putE at h
  by_cases h1 : goodD d = true ∧ isAt n = true
  · rw [if_neg (not_not_intro h1)] at h
    by_cases h2 : t.size = 32
    · rw [if_neg (not_not_intro h2)] at h
      by_cases h3 : 200 ≤ d.writes.length
      · rw [if_pos h3] at h; simp at h
      · exact ⟨h1.1, h1.2, h2, h3⟩
    · rw [if_pos h2] at h; simp at h
  · rw [if_pos h1] at h; simp at h
theorem putE_one {d : Dsk} {n : Int} {t : ByteArray} (hg : goodD d = true) (ha : isAt n = true) (h32 : t.size = 32) (h200 : ¬ 200 ≤ d.writes.length) : putE d n t = 0 := by
  unfold putE; rw [if_neg (not_not_intro ⟨hg, ha⟩), if_neg (not_not_intro h32), if_neg h200]
theorem putD_one {d : Dsk} {n : Int} {t : ByteArray} (h : putE d n t = 0) : putD d n t = ⟨d.safe, d.writes ++ [⟨n, t⟩]⟩ := by unfold putD; rw [if_pos h]
theorem putD_same {d : Dsk} {n : Int} {t : ByteArray} (h : putE d n t ≠ 0) : putD d n t = d := by unfold putD; rw [if_neg h]
/-- Behind a write that was taken the disk is good, and the text is read there. -/
theorem put_good {d : Dsk} {n : Int} {t : ByteArray} (h : putE d n t = 0) : goodD (putD d n t) = true := by
  obtain ⟨hg, ha, h32, h200⟩ := putE_zero h
  rw [putD_one h]
  obtain ⟨g1, g2, g3, g4⟩ := (goodD_iff d).1 hg
  refine (goodD_iff _).2 ⟨g1, by simp; omega, g3, ?_⟩
  simp only [List.all_append, g4, List.all_cons, List.all_nil, wrOk, ha, ok32, h32]
  decide
theorem put_read {d : Dsk} {n : Int} {t : ByteArray} (h : putE d n t = 0) : readD (putD d n t) n = t := by
  obtain ⟨hg, ha, h32, h200⟩ := putE_zero h
  unfold readD
  rw [if_pos ⟨put_good h, ha⟩, putD_one h, lastT_step, if_pos rfl]
theorem put_readE {d : Dsk} {n : Int} {t : ByteArray} (h : putE d n t = 0) (m : Int) : readE (putD d n t) m = readE d m := by
  obtain ⟨hg, ha, h32, h200⟩ := putE_zero h
  unfold readE; simp only [put_good h, hg]
theorem put_other {d : Dsk} {n m : Int} {t : ByteArray} (h : putE d n t = 0) (hm : m ≠ n) : readD (putD d n t) m = readD d m := by
  obtain ⟨hg, ha, h32, h200⟩ := putE_zero h
  have hp := put_good h
  unfold readD
  rw [hp, hg, putD_one h]
  simp only [lastT_step, safeAt]
  rw [if_neg (fun hh : n = m => hm hh.symm)]
end Wb

namespace Wb
open Go Go.RowKit
/-- All texts of place k. -/
def textsAt (d : Dsk) (k : Nat) : List ByteArray := afterL (d.safe.getD k ⟨#[]⟩) k d.writes
/-- What is left of the draw at place k. -/
def drawAt (d : Dsk) (x : Nat) : Nat → Nat
  | 0 => x
  | k + 1 => drawAt d x k / (textsAt d k).length
def crashAt (d : Dsk) (x k : Nat) : ByteArray := (textsAt d k).getD (drawAt d x k % (textsAt d k).length) ⟨#[]⟩
def crashL (d : Dsk) (x k : Nat) : List ByteArray := (List.range k).map (crashAt d x)
def mixL (d : Dsk) (x k : Nat) : List ByteArray := crashL d x k ++ d.safe.drop k
def crashE (d : Dsk) (draw : Int) : Int := if goodD d = true ∧ 0 ≤ draw then 0 else 2
def crashD (d : Dsk) (draw : Int) : Dsk := if goodD d = true ∧ 0 ≤ draw then ⟨crashL d draw.toNat d.safe.length, []⟩ else d
theorem textsAt_eq (d : Dsk) {k : Nat} (hk : k < d.safe.length) : textsAt d k = afterL d.safe[k] k d.writes := by
  unfold textsAt; rw [List.getD_eq_getElem?_getD, List.getElem?_eq_getElem hk]; rfl
theorem textsAt_pos (d : Dsk) (k : Nat) : 0 < (textsAt d k).length := by simp [textsAt, afterL]
theorem textsAt_le (d : Dsk) (k : Nat) : (textsAt d k).length ≤ d.writes.length + 1 := afterL_len _ _ _
theorem drawAt_le (d : Dsk) (x k : Nat) : drawAt d x k ≤ x := by
  induction k with
  | zero => exact Nat.le_refl _
  | succ k ih => exact Nat.le_trans (Nat.div_le_self _ _) ih
theorem drawAt_succ (d : Dsk) (x k : Nat) : drawAt d x (k + 1) = drawAt d x k / (textsAt d k).length := rfl
theorem crashL_len (d : Dsk) (x k : Nat) : (crashL d x k).length = k := by simp [crashL]
theorem crashL_succ (d : Dsk) (x k : Nat) : crashL d x (k + 1) = crashL d x k ++ [crashAt d x k] := by simp [crashL, List.range_succ]
theorem mixL_zero (d : Dsk) (x : Nat) : mixL d x 0 = d.safe := by simp [mixL, crashL]
theorem mixL_len (d : Dsk) (x : Nat) {k : Nat} (hk : k ≤ d.safe.length) : (mixL d x k).length = d.safe.length := by simp [mixL, crashL]; omega
theorem mixL_full (d : Dsk) (x : Nat) : mixL d x d.safe.length = crashL d x d.safe.length := by simp [mixL]
theorem mixL_set (d : Dsk) (x : Nat) {k : Nat} (hk : k < d.safe.length) : (mixL d x k).set k (crashAt d x k) = mixL d x (k + 1) := by
  unfold mixL
  rw [List.set_append_right _ _ (by rw [crashL_len]; exact Nat.le_refl _), crashL_len, Nat.sub_self, List.drop_eq_getElem_cons hk, List.set_cons_zero, crashL_succ, List.append_assoc]
  rfl
theorem crashAt_mem (d : Dsk) (x k : Nat) : crashAt d x k ∈ textsAt d k := by
  unfold crashAt
  rw [List.getD_eq_getElem?_getD, List.getElem?_eq_getElem (Nat.mod_lt _ (textsAt_pos d k))]
  exact List.getElem_mem _
theorem crashAt_get (d : Dsk) (x k : Nat) (h : drawAt d x k % (textsAt d k).length < (textsAt d k).length) : (textsAt d k)[drawAt d x k % (textsAt d k).length] = crashAt d x k := by
  unfold crashAt
  rw [List.getD_eq_getElem?_getD, List.getElem?_eq_getElem h]; rfl
/-- Every text of a good disk has 32 bytes. -/
theorem texts_ok {d : Dsk} (hg : goodD d = true) {k : Nat} (hk : k < d.safe.length) : ∀ t ∈ textsAt d k, ok32 t = true := by
  obtain ⟨g1, g2, g3, g4⟩ := (goodD_iff d).1 hg
  intro t ht
  rw [textsAt_eq d hk, afterL] at ht
  rcases List.mem_cons.1 ht with rfl | ht
  · exact List.all_eq_true.1 g3 _ (List.getElem_mem hk)
  · obtain ⟨x, hx, rfl⟩ := List.mem_map.1 ht
    have := List.all_eq_true.1 g4 x (List.mem_filter.1 hx).1
    simp only [wrOk, Bool.and_eq_true] at this
    exact this.2
theorem crash_good {d : Dsk} {draw : Int} (h : crashE d draw = 0) : goodD (crashD d draw) = true := by
  have hc : goodD d = true ∧ 0 ≤ draw := by
    unfold crashE at h
    by_cases hh : goodD d = true ∧ 0 ≤ draw
    · exact hh
    · rw [if_neg hh] at h; cases h
  unfold crashD
  rw [if_pos hc]
  obtain ⟨g1, g2, g3, g4⟩ := (goodD_iff d).1 hc.1
  refine (goodD_iff _).2 ⟨by simpa [crashL] using g1, by simp, ?_, rfl⟩
  rw [List.all_eq_true]
  intro t ht
  obtain ⟨k, hk, rfl⟩ := List.mem_map.1 ht
  exact texts_ok hc.1 (List.mem_range.1 hk) _ (crashAt_mem d _ k)
end Wb
