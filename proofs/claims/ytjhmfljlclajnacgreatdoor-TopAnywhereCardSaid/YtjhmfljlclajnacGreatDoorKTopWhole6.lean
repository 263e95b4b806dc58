/- Parts of the proof: JnW JnX WhP WhQ WhC JwB JwC SlTy JwD. -/
import Derived.Test.YtjhmfljlclajnacGreatDoorKTopWhole5
set_option linter.unusedVariables false
set_option linter.unusedSimpArgs false
set_option maxRecDepth 100000
set_option maxHeartbeats 40000000
namespace Wb
open Go Go.RowKit
theorem nat_home {b : Int} (hb : isBlk b = true) : ∃ k : Nat, (25 + b) = (k : Int) /\ k < 37 /\ 25 <= k := by
 unfold isBlk at hb
 have := of_decide_eq_true hb
 exact ⟨(25 + b).toNat, by omega, by omega, by omega⟩
theorem has_mem {l : List Cpy} {c : Cpy} (hc : c ∈ l) : hasB l c.block = true := by
 unfold hasB
 rw [List.any_eq_true]
 exact ⟨c, hc, by simp⟩
theorem com_home {r : Ring} {t : Txn} {d : Dsk} {k : Nat} {b : Int} (he : comE r t = 0) (hg : goodD d = true) (hw : d.writes = []) (hb : isBlk b = true) (hn : hasB t.dt b = false) : readD (runD d ((comL r t).take k)) (25 + b) = readD d (25 + b) := by
 obtain ⟨n, h1, h2, h3⟩ := nat_home hb
 obtain ⟨ho, hl⟩ := com_ok he
 rw [h1]
 refine run_read_none hg (fun s hs => ho s (List.mem_of_mem_take hs)) (by rw [hw, List.length_take]; simp; omega) h2 ?_
 intro x hx hf hat
 have hx2 := List.mem_of_mem_take hx
 rw [comL_split he] at hx2
 have hlog : ∀ (p : Int) (s : ByteArray), (atW (p % 24) s).at_ = n -> False := fun p s h => by
  have h5 : (1 : Int) + p % 24 = n := h
  omega
 rcases List.mem_append.1 hx2 with h | h
 ·rcases mem_comA h with rfl | ⟨c, hc, rfl⟩ | ⟨j, hj, rfl⟩
  ·exact hf rfl
  ·have h4 : (25 : Int) + c.block = n := hat
   have h5 : c.block = b := by omega
   have h6 := has_mem hc
   rw [h5, hn] at h6
   cases h6
  ·exact hlog _ _ hat
 ·rcases List.mem_cons.1 h with rfl | h
  ·exact hlog _ _ hat
  ·obtain rfl := List.mem_singleton.1 h
   exact hf rfl
theorem chk_home {l : List Txn} {a q : Int} {d : Dsk} {k : Nat} {b : Int} (hgs : ∀ t ∈ l, goodT t = true) (ha : 0 <= a /\ a < 24) (hq : 1 <= q /\ q <= 2147483647) (hg : goodD d = true) (hw : d.writes = []) (hb : isBlk b = true) (hn : newestB l b = none) : readD (runD d ((checkL (newestL l) a q).take k)) (25 + b) = readD d (25 + b) := by
 obtain ⟨n, h1, h2, h3⟩ := nat_home hb
 have g := newestL_copies hgs
 obtain ⟨ho, hl⟩ := chk_ok g ha hq
 rw [h1]
 refine run_read_none hg (fun s hs => ho s (List.mem_of_mem_take hs)) (by rw [hw, List.length_take]; simp; omega) h2 ?_
 intro x hx hf hat
 have hx2 := List.mem_of_mem_take hx
 rw [(check_zero g ha hq).2] at hx2
 rcases List.mem_append.1 hx2 with h | h
 ·rcases mem_home h with rfl | ⟨c, hc, rfl⟩
  ·exact hf rfl
  ·have h4 : (25 : Int) + c.block = n := hat
   have h5 : c.block = b := by omega
   have h6 := (mem_getC (copies_pw _ |>.1 g).1 c).1 hc
   rw [h5, newestL_get hgs, hn] at h6
   cases h6
 ·rcases List.mem_cons.1 h with rfl | h
  ·have h4 : (0 : Int) = n := hat
   omega
  ·obtain rfl := List.mem_singleton.1 h
   exact hf rfl
theorem chk_home_end {l : List Txn} {a q : Int} {d : Dsk} {b : Int} {s : ByteArray} (hgs : ∀ t ∈ l, goodT t = true) (ha : 0 <= a /\ a < 24) (hq : 1 <= q /\ q <= 2147483647) (hg : goodD d = true) (hw : d.writes = []) (hb : isBlk b = true) (hn : newestB l b = some s) : readD (runD d (checkL (newestL l) a q)) (25 + b) = s := by
 obtain ⟨n, h1, h2, h3⟩ := nat_home hb
 have g := newestL_copies hgs
 obtain ⟨ho, hl⟩ := chk_ok g ha hq
 have hmem : (⟨b, s⟩ : Cpy) ∈ newestL l := (mem_getC (copies_pw _ |>.1 g).1 ⟨b, s⟩).2 (by rw [newestL_get hgs]; exact hn)
 rw [h1]
 refine run_read _ hg ho (by rw [hw]; simp; omega) h2 ?_ (.inl ⟨wrS (25 + b) s, ?_, wr_kind _ _, h1⟩)
 ·intro x hx hf hat
  rw [(check_zero g ha hq).2] at hx
  rcases List.mem_append.1 hx with h | h
  ·rcases mem_home h with rfl | ⟨c, hc, rfl⟩
   ·exact absurd rfl hf
   ·have h4 : (25 : Int) + c.block = n := hat
    exact cpy_one g hc hmem (show c.block = b by omega)
  ·rcases List.mem_cons.1 h with rfl | h
   ·have h4 : (0 : Int) = n := hat
    omega
   ·obtain rfl := List.mem_singleton.1 h
    exact absurd rfl hf
 ·rw [(check_zero g ha hq).2]
  refine List.mem_append_left _ ?_
  unfold homeS
  exact List.mem_append_left _ (List.mem_map.2 ⟨⟨b, s⟩, hmem, rfl⟩)
theorem topT_none {t : Txn} {b : Int} (h : topT t b = none) : getC t.mt b = none /\ getC t.dt b = none /\ inI t.rev b = false := by
 unfold topT at h
 cases h1 : getC t.mt b with
 | some x => rw [h1] at h; cases h
 | none =>
  rw [h1] at h
  cases h2 : getC t.dt b with
  | some x => rw [h2] at h; cases h
  | none =>
   rw [h2] at h
   dsimp only at h
   cases h3 : inI t.rev b with
   | false => exact ⟨rfl, rfl, rfl⟩
   | true => rw [h3] at h; simp at h
theorem InvJ.now_good {j : Jn} (h : InvJ j) (hd : j.down = false) : goodT j.now = true := by
 cases h with
 | idle _ _ _ hn => exact hn.good
 | sealing _ _ _ _ _ _ _ hn => exact hn.good
 | homing _ _ _ _ _ hn => exact hn.good
 | off hj hu => rw [hj] at hd; cases hd
 | rising d k hj hu => rw [hj] at hd; cases hd
theorem step_up {j : Jn} (h : InvJ j) (hd : j.down = false) : (stepJ j).1.down = false := by
 by_cases hw0 : j.work = 0
 ·unfold stepJ; rw [if_pos hw0]; exact hd
 obtain ⟨s, r, hs, he⟩ := inv_steps h hw0
 have hw3 : j.work ≠ 3 := by
  cases h with
  | idle _ hw => rw [hw]; decide
  | sealing _ _ _ _ _ hw => rw [hw]; decide
  | homing _ _ _ hw => rw [hw]; decide
  | off hj hu => rw [hj] at hw0; exact absurd rfl hw0
  | rising d k hj hu => rw [hj] at hd; cases hd
 unfold stepJ
 rw [if_neg hw0, hs]
 dsimp only
 rw [if_neg (by rw [he]; decide)]
 split
 ·unfold endJ
  dsimp only
  split
  ·exact hd
  split
  ·exact hd
  ·exact hd
 ·exact hd
def setO {α : Type} (f : Int -> Option α) (b : Int) (v : Option α) : Int -> Option α := fun x => if x = b then v else f x
theorem setO_self {α : Type} (f : Int -> Option α) (b : Int) (v : Option α) : setO f b v b = v := by simp [setO]
theorem setO_ne {α : Type} {f : Int -> Option α} {b x : Int} {v : Option α} (h : x ≠ b) : setO f b v x = f x := by simp [setO, h]
structure Bk where
 now : Int -> Option ByteArray
 states : Int -> Option (Int -> Option ByteArray)
 sealed : Int
 told : Int
 down : Bool
def bk0 : Bk := ⟨fun _ => none, setO (fun _ => none) 0 (some fun _ => none), 0, 0, false⟩
def homeOk (σ : Int -> Option ByteArray) (d : Dsk) : Prop := ∀ b, isBlk b = true -> ∀ s, σ b = some s -> readD d (25 + b) = s
def stateB (k : Bk) (j : Jn) : Int -> Option ByteArray := (k.states j.last).getD fun _ => none
def seeB (k : Bk) (j : Jn) (a : Aj) (r : Rep) : Bk :=
 if r.code ≠ 0 then { k with down := j.down }
 else if a.kind = 2 then { k with down := j.down, now := setO k.now a.b (some (fit a.text)) }
 else if a.kind = 4 then { k with down := j.down, now := setO k.now a.b none }
 else if a.kind = 6 then { k with down := j.down, sealed := r.n, states := setO k.states r.n (some k.now) }
 else if a.kind = 8 then
  if k.down = false \/ j.down = true then { k with down := j.down, told := if 0 < r.n then r.n else k.told }
  else { k with down := j.down, now := stateB k j, told := j.last, sealed := j.last }
 else { k with down := j.down }
def seeOk (k : Bk) (j : Jn) (a : Aj) (r : Rep) : Prop :=
 r.code = 0 -> a.kind = 8 -> k.down = true -> j.down = false -> ∃ σ, k.states j.last = some σ /\ (if 0 < r.n then r.n else k.told) <= j.last /\ j.last <= k.sealed /\ homeOk σ j.disk
def TellsW (σ : Int -> Option ByteArray) (txs : List Txn) (d : Dsk) : Prop := ∀ b s, isBlk b = true -> σ b = some s -> (newestB txs b).getD (readD d (25 + b)) = s /\ riseR txs b = 1
theorem fold0_in : ∀ (l : List Int) (f : Int -> Int) (b : Int), inI l b = false -> l.foldl (fun f b => setF f b 0) f b = f b
 | [], _, _, _ => rfl
 | x :: l, f, b, h => by
  unfold inI at h
  rw [List.any_cons, Bool.or_eq_false_iff] at h
  rw [List.foldl_cons, fold0_in l _ b h.2, setF_ne]
  intro e
  rw [e] at h
  simp at h
theorem fold1_get : ∀ (l : List Cpy) (f : Int -> Int) (b : Int), l.foldl (fun f c => setF f c.block 1) f b = if (getC l b).isSome = true then 1 else f b
 | [], _, _ => by simp [getC]
 | x :: l, f, b => by
  rw [List.foldl_cons, fold1_get l]
  unfold getC
  rw [List.find?_cons]
  by_cases e : x.block = b
  ·have : (x.block == b) = true := by simpa using e
   rw [this]
   simp [e, setF_self]
  ·have : (x.block == b) = false := by simpa using e
   rw [this]
   dsimp only
   rw [setF_ne (fun h => e h.symm)]
theorem riseR_snoc (l : List Txn) (t : Txn) : riseR (l ++ [t]) = riseT (riseR l) t := by unfold riseR; rw [List.foldl_append]; rfl
theorem riseT_some {f : Int -> Int} {t : Txn} {b : Int} {s : ByteArray} (h : getC t.mt b = some s) : riseT f t b = 1 := by
 unfold riseT; rw [fold1_get, h]; rfl
theorem riseT_none {f : Int -> Int} {t : Txn} {b : Int} (h : getC t.mt b = none) (h2 : inI t.rev b = false) : riseT f t b = f b := by
 unfold riseT; rw [fold1_get, h, fold0_in _ _ _ h2]; rfl
theorem blk_nat {b : Int} (h : isBlk b = true) : ∃ n : Nat, b = (n : Int) /\ n < 12 := by
 unfold isBlk at h
 have := of_decide_eq_true h
 exact ⟨b.toNat, by omega, by omega⟩
theorem TellsW.keep {σ : Int -> Option ByteArray} {txs : List Txn} {d c : Dsk} (h : TellsW σ txs d) (hc : ∀ b, isBlk b = true -> (newestB txs b = none) -> (∃ s, σ b = some s) -> readD c (25 + b) = readD d (25 + b)) : TellsW σ txs c := fun b s hb hs => by
 obtain ⟨h1, h2⟩ := h b s hb hs
 refine ⟨?_, h2⟩
 cases hn : newestB txs b with
 | some x => rw [hn] at h1; exact h1
 | none => rw [hn] at h1; rw [hc b hb hn ⟨s, hs⟩]; exact h1
section
variable {d c : Dsk} {txs : List Txn} {q a : Int} {u n : Nat} {σ τ : Int -> Option ByteArray} {t : Txn} {r : Ring}
theorem chk_tells (h : LogI d txs q a u) (ht : TellsW σ txs d) (hn : n <= (checkL (newestL txs) a q).length) (hl : Left (runD d ((checkL (newestL txs) a q).take n)) c) : ∃ tx u2, LogI c tx q a u2 /\ TellsW σ tx c := by
 obtain ⟨b1, b2, _⟩ := h.bounds
 have g := newestL_copies h.goods
 have hcl := chk_left g b1 b2 h.good h.clean hn hl
 have hno : ∀ b, isBlk b = true -> newestB txs b = none -> readD c (25 + b) = readD d (25 + b) := fun b hb hx => by
  obtain ⟨m, rfl, hm⟩ := blk_nat hb
  rcases hcl.home m hm with e | ⟨x, hx1, hx2, _⟩
  ·exact e
  ·have h6 := (mem_getC (copies_pw _ |>.1 g).1 x).1 hx1
   rw [hx2, newestL_get h.goods, hx] at h6
   cases h6
 rcases h.chk hn hl with ⟨h1, _⟩ | ⟨h1, h2⟩
 ·exact ⟨_, _, h1, ht.keep fun b hb hx _ => hno b hb hx⟩
 ·refine ⟨_, _, h1, fun b s hb hs => ⟨?_, rfl⟩⟩
  obtain ⟨e1, _⟩ := ht b s hb hs
  show readD c (25 + b) = s
  cases hx : newestB txs b with
  | none => rw [hno b hb hx]; rw [hx] at e1; exact e1
  | some y =>
   rw [hx] at e1
   have hmem : (⟨b, y⟩ : Cpy) ∈ newestL txs := (mem_getC (copies_pw _ |>.1 g).1 ⟨b, y⟩).2 (by rw [newestL_get h.goods]; exact hx)
   exact (hcl.done (by omega) _ hmem).trans e1
theorem chk_tells_end (h : LogI d txs q a u) (ht : TellsW σ txs d) : TellsW σ [] (runD d (checkL (newestL txs) a q)) := fun b s hb hs => by
 obtain ⟨b1, b2, _⟩ := h.bounds
 obtain ⟨e1, _⟩ := ht b s hb hs
 refine ⟨?_, rfl⟩
 show readD (runD d (checkL (newestL txs) a q)) (25 + b) = s
 cases hx : newestB txs b with
 | none =>
  have := chk_home (k := (checkL (newestL txs) a q).length) h.goods b1 b2 h.good h.clean hb hx
  rw [List.take_length] at this
  rw [this]; rw [hx] at e1; exact e1
 | some y => rw [hx] at e1; exact (chk_home_end h.goods b1 b2 h.good h.clean hb hx).trans e1
structure NextW (σ τ : Int -> Option ByteArray) (t : Txn) : Prop where
 a : ∀ b s, isBlk b = true -> σ b = some s -> getC t.dt b = none
 b : ∀ b s, isBlk b = true -> τ b = some s -> getC t.mt b = some s \/ (topT t b = none /\ σ b = some s)
theorem NextW.tells (hN : NextW σ τ t) (ht : TellsW σ txs d) (hc : ∀ b, isBlk b = true -> getC t.dt b = none -> readD c (25 + b) = readD d (25 + b)) : TellsW τ (txs ++ [t]) c := fun b s hb hs => by
 rw [newestB_snoc, riseR_snoc]
 rcases hN.b b s hb hs with h1 | ⟨h1, h2⟩
 ·rw [turnT_some h1, riseT_some h1]; exact ⟨rfl, rfl⟩
 ·obtain ⟨t1, t2, t3⟩ := topT_none h1
  rw [turnT_else t1 t3, riseT_none t1 t3, hc b hb t2]
  exact ht b s hb h2
theorem com_tells (h : LogI d txs q a u) (ht : TellsW σ txs d) (hN : NextW σ τ t) (he : comE r t = 0) (ha : r.head = a) (hu : r.used = u) (hq : t.seq = q) (hq2 : q < 2147483647) (hk : n <= (comL r t).length) (hl : Left (runD d ((comL r t).take n)) c) :
    (LogI c txs q a u /\ TellsW σ txs c) \/ (∃ a2 u2, LogI c (txs ++ [t]) (q + 1) a2 u2 /\ TellsW τ (txs ++ [t]) c) := by
 have g := (comE_zero he).2.1
 have hcl := com_left he h.good h.clean hk hl
 have hno : ∀ b, isBlk b = true -> getC t.dt b = none -> readD c (25 + b) = readD d (25 + b) := fun b hb hx => by
  obtain ⟨m, rfl, hm⟩ := blk_nat hb
  rcases hcl.home m hm with e | ⟨x, hx1, hx2, _⟩
  ·exact e
  ·have h6 := (mem_getC (copies_pw _ |>.1 g.dt).1 x).1 hx1
   rw [hx2, hx] at h6
   cases h6
 rcases h.com he ha hu hq hq2 hk hl with ⟨h1, _⟩ | ⟨h1, _⟩
 ·exact .inl ⟨h1, ht.keep fun b hb _ ⟨s, hs⟩ => hno b hb (hN.a b s hb hs)⟩
 ·exact .inr ⟨_, _, h1, hN.tells ht hno⟩
theorem com_tells_end (h : LogI d txs q a u) (ht : TellsW σ txs d) (hN : NextW σ τ t) (he : comE r t = 0) : TellsW τ (txs ++ [t]) (runD d (comL r t)) :=
 hN.tells ht fun b hb hx => by
  have := com_home (k := (comL r t).length) (b := b) he h.good h.clean hb (by rw [hasB_get, hx]; rfl)
  rwa [List.take_length] at this
theorem keep_tells2 (h : LogI d txs q a u) (ht : TellsW σ txs d) (hl : Left d c) : TellsW σ txs c := ht.keep fun b hb _ _ => by
 obtain ⟨m, e, hm, _⟩ := nat_home hb
 rw [e]
 exact hl.same h.good h.clean hm
end
structure BaseW (k : Bk) (j : Jn) (β : Int -> Option ByteArray) (n : Int) : Prop where
 now : ∀ b s, isBlk b = true -> k.now b = some s -> j.roles b = 1 /\ (getC j.now.mt b = some s \/ (topT j.now b = none /\ β b = some s))
 old : ∀ b s, isBlk b = true -> β b = some s -> (j.roles b = 1 \/ n < j.freed b) /\ getC j.now.dt b = none
theorem BaseW.next {k : Bk} {j : Jn} {β : Int -> Option ByteArray} {n : Int} (h : BaseW k j β n) : NextW β k.now j.now :=
 ⟨fun b s hb hs => (h.old b s hb hs).2, fun b s hb hs => (h.now b s hb hs).2⟩
theorem base_change {k : Bk} {j : Jn} {a : Aj} {β : Int -> Option ByteArray} {n : Int} (hg : goodT j.now = true) (hq : j.now.seq = n + 1) (hn : j.last <= n) (v : BaseW k j β n) (hk : a.kind = 1 \/ a.kind = 2 \/ a.kind = 3 \/ a.kind = 4 \/ a.kind = 5) (j2 : Jn) :
    BaseW (seeB k j2 a (noR (changeJ j a).2)) (changeJ j a).1 β n := by
 by_cases he : altE j a = 0
 rotate_left
 ·have h1 : changeJ j a = (j, altE j a) := by unfold changeJ; rw [if_neg he]
  rw [h1]
  have e : seeB k j2 a (noR (altE j a)) = { k with down := j2.down } := by unfold seeB; rw [if_pos (by exact he)]
  rw [e]
  exact ⟨v.now, v.old⟩
 have hc : (changeJ j a).2 = 0 := by unfold changeJ; rw [if_pos he]
 have hnow : (changeJ j a).1.now = altT j a := by unfold changeJ; rw [if_pos he]
 rw [hc]
 have hfr : a.kind ≠ 4 -> (changeJ j a).1.freed = j.freed := fun h4 => by unfold changeJ; rw [if_pos he]; dsimp only; rw [if_neg h4]
 have same : (altT j a).mt = j.now.mt -> (altT j a).dt = j.now.dt -> (altT j a).rev = j.now.rev -> altTo j a = roleJ j a.b -> (a.kind ≠ 2 /\ a.kind ≠ 4) -> (a.kind ≠ 6 /\ a.kind ≠ 8) -> BaseW (seeB k j2 a (noR 0)) (changeJ j a).1 β n := by
  intro e1 e2 e3 e4 hk24 hk68
  have hr : (changeJ j a).1.roles = j.roles := by
   unfold changeJ
   rw [if_pos he]
   dsimp only
   rw [if_neg (by rw [e4]; exact fun h => h.2 rfl)]
  have e : seeB k j2 a (noR 0) = { k with down := j2.down } := by
   unfold seeB
   rw [if_neg (fun h => h rfl), if_neg hk24.1, if_neg hk24.2, if_neg hk68.1, if_neg hk68.2]
  rw [e]
  refine ⟨fun b s hb hs => ?_, fun b s hb hs => ?_⟩
  ·rw [hr, hnow, e1, topT_congr (t := j.now) (by rw [e1]) (by rw [e2]) (by rw [e3])]
   exact v.now b s hb hs
  ·rw [hr, hnow, e2, hfr hk24.2]
   exact v.old b s hb hs
 rcases hk with hk | hk | hk | hk | hk
 ·
  have e : altT j a = begT j.now a.h a.n (frJ j) := by unfold altT; rw [if_pos hk]
  have e2 : begT j.now a.h a.n (frJ j) = j.now \/ ∃ x, begT j.now a.h a.n (frJ j) = setH j.now a.h x := by unfold begT; split; exact .inr ⟨_, rfl⟩; exact .inl rfl
  have e3 : (altT j a).mt = j.now.mt /\ (altT j a).dt = j.now.dt /\ (altT j a).rev = j.now.rev := by
   rw [e]
   rcases e2 with h | ⟨x, h⟩
   ·rw [h]; exact ⟨rfl, rfl, rfl⟩
   ·rw [h]; exact (setH_same _ _ _).2
  exact same e3.1 e3.2.1 e3.2.2 (by unfold altTo; rw [if_neg (by omega), if_neg (by omega), if_neg (by omega)]) (by omega) (by omega)
 ·
  have e : altT j a = chgT j.now a.h a.b (fit a.text) := by unfold altT; rw [if_neg (by omega), if_neg (by omega), if_pos hk]
  have hz : orE (chgE j.now a.h a.b (fit a.text)) (roleJ j a.b = 2) 8 = 0 := by have := he; unfold altE at this; rw [if_neg (by omega), if_neg (by omega), if_pos hk] at this; exact this
  obtain ⟨z1, _⟩ := orE_zero (by decide) hz
  obtain ⟨z2, z3⟩ := chg_zero z1
  have hb := (may_zero z2).2.2.2
  obtain ⟨d1, d2, d3, d4⟩ := chg_d z1 hg
  have hto : altTo j a = 1 := by unfold altTo; rw [if_pos hk]
  obtain ⟨r1, r2⟩ := role_change he hb
  have es : seeB k j2 a (noR 0) = { k with down := j2.down, now := setO k.now a.b (some (fit a.text)) } := by
   unfold seeB
   rw [if_neg (fun h => h rfl), if_pos hk]
  rw [es]
  refine ⟨fun b s hbb hs => ?_, fun b s hbb hs => ?_⟩
  ·dsimp only at hs
   by_cases hx : b = a.b
   ·subst hx
    rw [setO_self] at hs
    cases hs
    exact ⟨by rw [r1, hto], .inl (by rw [hnow, e]; exact d2)⟩
   ·rw [setO_ne hx] at hs
    rw [hnow, e, r2 b hx, d1.mt b hx, d1.top hx]
    exact v.now b s hbb hs
  ·obtain ⟨o1, o2⟩ := v.old b s hbb hs
   rw [hnow, e, d3, hfr (by omega)]
   refine ⟨?_, o2⟩
   by_cases hx : b = a.b
   ·subst hx; exact .inl (by rw [r1, hto])
   ·rw [r2 b hx]; exact o1
 ·
  have e : altT j a = filT j.now a.h a.b (fit a.text) := by unfold altT; rw [if_neg (by omega), if_neg (by omega), if_neg (by omega), if_pos hk]
  have hz : orE (orE (filE j.now a.h a.b (fit a.text)) (roleJ j a.b = 1) 8) (j.last < j.freed a.b) 9 = 0 := by have := he; unfold altE at this; rw [if_neg (by omega), if_neg (by omega), if_neg (by omega), if_pos hk] at this; exact this
  obtain ⟨z0, z9⟩ := orE_zero (by decide) hz
  obtain ⟨z1, z4⟩ := orE_zero (by decide) z0
  obtain ⟨z2, z3, z5⟩ := fil_zero z1
  have hb := (may_zero z2).2.2.2
  obtain ⟨d1, d2, d3, d4⟩ := fil_d z1 hg
  have hrl : roleJ j a.b = j.roles a.b := by unfold roleJ; rw [if_pos hb]
  obtain ⟨r1, r2⟩ := role_change he hb
  have es : seeB k j2 a (noR 0) = { k with down := j2.down } := by
   unfold seeB
   rw [if_neg (fun h => h rfl), if_neg (by omega), if_neg (by omega), if_neg (by omega), if_neg (by omega)]
  rw [es]
  have hno : ∀ s, β a.b ≠ some s := fun s hs => by
   rcases (v.old _ s hb hs).1 with h | h
   ·exact z4 (by rw [hrl]; exact h)
   ·exact z9 (by omega)
  refine ⟨fun b s hbb hs => ?_, fun b s hbb hs => ?_⟩
  ·dsimp only at hs
   by_cases hx : b = a.b
   ·subst hx
    exact absurd (v.now _ s hb hs).1 (by rw [<- hrl]; exact z4)
   ·rw [hnow, e, r2 b hx, d1.mt b hx, d1.top hx]
    exact v.now b s hbb hs
  ·by_cases hx : b = a.b
   ·subst hx; exact absurd hs (hno s)
   ·rw [hnow, e, r2 b hx, d1.dt b hx, hfr (by omega)]
    exact v.old b s hbb hs
 ·
  have e : altT j a = rvkT j.now a.h a.b := by unfold altT; rw [if_neg (by omega), if_neg (by omega), if_neg (by omega), if_neg (by omega)]
  have hz : orE (rvkE j.now a.h a.b) (roleJ j a.b = 0) 8 = 0 := by have := he; unfold altE at this; rw [if_neg (by omega), if_neg (by omega), if_neg (by omega), if_neg (by omega), if_pos hk] at this; exact this
  obtain ⟨z1, _⟩ := orE_zero (by decide) hz
  have hb := (may_zero (rvk_zero z1)).2.2.2
  obtain ⟨d1, d2, d3, d4⟩ := rvk_d z1
  obtain ⟨r1, r2⟩ := role_change he hb
  have es : seeB k j2 a (noR 0) = { k with down := j2.down, now := setO k.now a.b none } := by
   unfold seeB
   rw [if_neg (fun h => h rfl), if_neg (by omega), if_pos hk]
  have hf : (changeJ j a).1.freed = setF j.freed a.b (altT j a).seq := by unfold changeJ; rw [if_pos he]; dsimp only; rw [if_pos hk]
  rw [es]
  refine ⟨fun b s hbb hs => ?_, fun b s hbb hs => ?_⟩
  ·dsimp only at hs
   by_cases hx : b = a.b
   ·subst hx
    rw [setO_self] at hs
    cases hs
   ·rw [setO_ne hx] at hs
    rw [hnow, e, r2 b hx, d1.mt b hx, d1.top hx]
    exact v.now b s hbb hs
  ·by_cases hx : b = a.b
   ·subst hx
    refine ⟨.inr ?_, by rw [hnow, e]; exact d3⟩
    rw [hf, setF_self, altT_seq]
    omega
   ·rw [hnow, e, r2 b hx, d1.dt b hx, hf, setF_ne hx]
    exact v.old b s hbb hs
 ·
  have e : altT j a = stopT j.now a.h := by unfold altT; rw [if_neg (by omega), if_pos hk]
  have e2 : stopT j.now a.h = j.now \/ ∃ x, stopT j.now a.h = setH j.now a.h x := by unfold stopT; split; exact .inr ⟨_, rfl⟩; exact .inl rfl
  have e3 : (altT j a).mt = j.now.mt /\ (altT j a).dt = j.now.dt /\ (altT j a).rev = j.now.rev := by
   rw [e]
   rcases e2 with h | ⟨x, h⟩
   ·rw [h]; exact ⟨rfl, rfl, rfl⟩
   ·rw [h]; exact (setH_same _ _ _).2
  exact same e3.1 e3.2.1 e3.2.2 (by unfold altTo; rw [if_neg (by omega), if_neg (by omega), if_neg (by omega)]) (by omega) (by omega)
structure DnW (k : Bk) (d : Dsk) : Prop where
 ex : ∃ txs q a u σ, LogI d txs q a u /\ k.told + 1 <= q /\ q <= k.sealed + 1 /\ k.states (q - 1) = some σ /\ TellsW σ txs d
inductive WI (k : Bk) (j : Jn) : Prop
 | idle (σ : Int -> Option ByteArray) (hd : j.down = false) (hw : j.work = 0) (hs : k.sealed = j.last) (ht : k.states j.last = some σ) (hT : TellsW σ j.done j.disk) (hB : BaseW k j σ j.last)
 | sealing (d : Dsk) (r : Ring) (us : List Int) (n : Nat) (σ τ : Int -> Option ByteArray) (hd : j.down = false) (hw : j.work = 1) (hu : UpI j d r us) (he : comE r j.sealed = 0) (hq : j.sealed.seq = j.last + 1) (hq2 : j.sealed.seq < 2147483646) (hsq : j.now.seq = j.last + 2)
     (hn : n < (comL r j.sealed).length) (hdk : j.disk = runD d ((comL r j.sealed).take n)) (hst : j.steps = (comL r j.sealed).drop n) (hs : k.sealed = j.last + 1) (ht : k.states j.last = some σ) (ht2 : k.states (j.last + 1) = some τ) (hT : TellsW σ j.done d) (hN : NextW σ τ j.sealed) (hB : BaseW k j τ (j.last + 1))
 | homing (d : Dsk) (n : Nat) (σ : Int -> Option ByteArray) (hd : j.down = false) (hw : j.work = 2) (hu : UpI j d j.ring j.used) (hsq : j.now.seq = j.last + 1) (hp : j.pending = j.done.length) (hn : n < (checkL (newestL j.done) j.ring.head (j.last + 1)).length) (hdk : j.disk = runD d ((checkL (newestL j.done) j.ring.head (j.last + 1)).take n))
     (hst : j.steps = (checkL (newestL j.done) j.ring.head (j.last + 1)).drop n) (hs : k.sealed = j.last) (ht : k.states j.last = some σ) (hT : TellsW σ j.done d) (hB : BaseW k j σ j.last)
 | off (hd : j.down = true) (hw : j.work = 0) (hu : DnW k j.disk)
 | rising (d : Dsk) (n : Nat) (hd : j.down = true) (hw : j.work = 3) (hf : j.found = scanF d) (hu : DnW k d) (hn : n < (checkL (newestL (scanF d).txns) (scanF d).at_ (scanF d).next).length) (hdk : j.disk = runD d ((checkL (newestL (scanF d).txns) (scanF d).at_ (scanF d).next).take n))
     (hst : j.steps = (checkL (newestL (scanF d).txns) (scanF d).at_ (scanF d).next).drop n)
structure WJ (k : Bk) (j : Jn) : Prop where
 inv : InvJ j
 told : k.told = j.last
 dn : k.down = j.down
 w : WI k j
theorem BaseW.congr {k k2 : Bk} {j j2 : Jn} {β : Int -> Option ByteArray} {n : Int} (h : BaseW k j β n) (e0 : k2.now = k.now) (e1 : j2.roles = j.roles) (e2 : j2.freed = j.freed) (e3 : j2.now = j.now) : BaseW k2 j2 β n :=
 ⟨by rw [e0, e1, e3]; exact h.now, by rw [e1, e2, e3]; exact h.old⟩
theorem DnW.congr {k k2 : Bk} {d : Dsk} (h : DnW k d) (e1 : k2.states = k.states) (e2 : k2.sealed = k.sealed) (e3 : k2.told = k.told) : DnW k2 d := ⟨by rw [e1, e2, e3]; exact h.ex⟩
theorem WI.same {k : Bk} {j : Jn} (h : WI k j) (x : Bool) (n : Int) : WI { k with down := x } { j with acts := n } := by
 cases h with
 | idle σ hd hw hs ht hT hB => exact .idle σ hd hw hs ht hT (hB.congr rfl rfl rfl rfl)
 | sealing d r us n σ τ hd hw hu he hq hq2 hsq hn hdk hst hs ht ht2 hT hN hB => exact .sealing d r us n σ τ hd hw (hu.congr rfl rfl) he hq hq2 hsq hn hdk hst hs ht ht2 hT hN (hB.congr rfl rfl rfl rfl)
 | homing d n σ hd hw hu hsq hp hn hdk hst hs ht hT hB => exact .homing d n σ hd hw (hu.congr rfl rfl) hsq hp hn hdk hst hs ht hT (hB.congr rfl rfl rfl rfl)
 | off hd hw hu => exact .off hd hw (hu.congr rfl rfl rfl)
 | rising d n hd hw hf hu hn hdk hst => exact .rising d n hd hw hf (hu.congr rfl rfl rfl) hn hdk hst
theorem WJ.acts {k : Bk} {j : Jn} (h : WJ k j) (n : Int) : WJ k { j with acts := n } := ⟨h.inv.acts n, h.told, h.dn, by have := h.w.same k.down n; exact this⟩
theorem see_bad {k : Bk} {j : Jn} {a : Aj} {r : Rep} (h : r.code ≠ 0) : seeB k j a r = { k with down := j.down } := by unfold seeB; rw [if_pos h]
theorem WJ.bad {k : Bk} {j : Jn} {a : Aj} {r : Rep} (h : WJ k j) (hc : r.code ≠ 0) : WJ (seeB k j a r) j /\ seeOk k j a r := by
 rw [see_bad hc]
 exact ⟨⟨h.inv, h.told, rfl, h.w.same _ j.acts⟩, fun h0 => absurd h0 hc⟩
theorem see_else {k : Bk} {j : Jn} {a : Aj} {r : Rep} (h2 : a.kind ≠ 2) (h4 : a.kind ≠ 4) (h6 : a.kind ≠ 6) (h8 : a.kind ≠ 8) : seeB k j a r = { k with down := j.down } := by
 unfold seeB
 by_cases h : r.code ≠ 0
 ·rw [if_pos h]
 ·rw [if_neg h, if_neg h2, if_neg h4, if_neg h6, if_neg h8]
theorem dn_chk {k : Bk} {d c : Dsk} {n : Nat} (h : DnW k d) (hk : n <= (checkL (newestL (scanF d).txns) (scanF d).at_ (scanF d).next).length) (hl : Left (runD d ((checkL (newestL (scanF d).txns) (scanF d).at_ (scanF d).next).take n)) c) : DnW k c := by
 obtain ⟨txs, q, a, u, σ, hL, h2, h3, h4, h5⟩ := h.ex
 rw [hL.found] at hk hl
 dsimp only at hk hl
 rw [newestL_log] at hk hl
 obtain ⟨tx, u2, g1, g2⟩ := chk_tells hL h5 hk hl
 exact ⟨_, _, _, _, _, g1, h2, h3, h4, g2⟩
theorem w_crash {k : Bk} {j : Jn} {a : Aj} (hk : a.kind = 10) (h : WJ k j) : WJ (seeB k (crashJ j a.n).1 a (noR (crashJ j a.n).2)) (crashJ j a.n).1 /\ seeOk k (crashJ j a.n).1 a (noR (crashJ j a.n).2) := by
 have hI := inv_crash a.n h.inv
 by_cases hc : crashE j.disk a.n = 0
 rotate_left
 ·have e : crashJ j a.n = (j, crashE j.disk a.n) := by unfold crashJ; rw [if_neg hc]
  rw [e]
  exact h.bad hc
 have e : crashJ j a.n = ({ zeroJ (crashD j.disk a.n) j.last j.acts with down := true }, 0) := by unfold crashJ; rw [if_pos hc]
 rw [e] at hI ⊢
 dsimp only at hI ⊢
 refine ⟨?_, fun _ h8 => by omega⟩
 rw [see_else (by omega) (by omega) (by omega) (by omega)]
 refine ⟨hI, h.told, rfl, .off rfl rfl (DnW.congr (k := k) ?_ rfl rfl rfl)⟩
 show DnW k (crashD j.disk a.n)
 have hl := Left.crash hc
 have htold := h.told
 have hv := h.inv
 cases h.w with
 | idle σ hd hw hs ht hT hB =>
  obtain ⟨u1, u2, u3, u4⟩ := hv.up hw (.inl hd)
  exact ⟨_, _, _, _, σ, u1.log.keep hl, by omega, by omega, by rw [show j.last + 1 - 1 = j.last by omega]; exact ht, keep_tells2 u1.log hT hl⟩
 | sealing d r us n σ τ hd hw hu he hq hq2 hsq hn hdk hst hs ht ht2 hT hN hB =>
  have hl2 := hl
  rw [hdk] at hl2
  have hg := (goodR_iff r).1 hu.ring
  rw [<- hdk] at hl2
  rw [hdk] at hl2
  rcases com_tells hu.log hT hN he rfl (by omega) hq (by omega) (Nat.le_of_lt hn) hl2 with ⟨g1, g2⟩ | ⟨a2, u2, g1, g2⟩
  ·rw [<- hdk] at g1 g2
   exact ⟨_, _, _, _, σ, g1, by omega, by omega, by rw [show j.last + 1 - 1 = j.last by omega]; exact ht, g2⟩
  ·rw [<- hdk] at g1 g2
   exact ⟨_, _, _, _, τ, g1, by omega, by omega, by rw [show j.last + 1 + 1 - 1 = j.last + 1 by omega]; exact ht2, g2⟩
 | homing d n σ hd hw hu hsq hp hn hdk hst hs ht hT hB =>
  have hl2 := hl
  rw [hdk] at hl2
  obtain ⟨tx, u2, g1, g2⟩ := chk_tells hu.log hT (Nat.le_of_lt hn) hl2
  rw [<- hdk] at g1 g2
  exact ⟨_, _, _, _, σ, g1, by omega, by omega, by rw [show j.last + 1 - 1 = j.last by omega]; exact ht, g2⟩
 | off hd hw hu =>
  obtain ⟨txs, q, a, u, σ, hL, h2, h3, h4, h5⟩ := hu.ex
  exact ⟨txs, q, a, u, σ, hL.keep hl, h2, h3, h4, keep_tells2 hL h5 hl⟩
 | rising d n hd hw hf hu hn hdk hst =>
  have hl2 := hl
  rw [hdk] at hl2
  rw [hdk]
  exact dn_chk hu (Nat.le_of_lt hn) hl2
theorem w_begin {k : Bk} {j : Jn} {a : Aj} (hk : a.kind = 11) (h : WJ k j) : WJ (seeB k (beginJ j).1 a (noR (beginJ j).2)) (beginJ j).1 /\ seeOk k (beginJ j).1 a (noR (beginJ j).2) := by
 have hI := inv_begin h.inv
 by_cases h1 : j.down = false \/ j.work ≠ 0
 ·have e : beginJ j = (j, 9) := by unfold beginJ; rw [if_pos h1]
  rw [e]
  exact h.bad (show (9 : Int) ≠ 0 by decide)
 have hd : j.down = true := by
  cases hh : j.down with
  | true => rfl
  | false => exact absurd (.inl hh) h1
 have hw0 : j.work = 0 := Decidable.byContradiction fun hh => h1 (.inr hh)
 obtain ⟨e1, e2, e3, e4, _⟩ := (show DnI j.disk j.last by
  cases h.inv with
  | idle hd2 => rw [hd2] at hd; cases hd
  | sealing _ _ _ _ hd2 => rw [hd2] at hd; cases hd
  | homing _ _ hd2 => rw [hd2] at hd; cases hd
  | off hj hu => exact hu
  | rising d k hj hu => rw [hj] at hw0; cases hw0).scan
 have e : beginJ j = ({ j with found := scanF j.disk, steps := checkL (newestL (scanF j.disk).txns) (scanF j.disk).at_ (scanF j.disk).next, work := 3 }, 0) := by
  unfold beginJ; rw [if_neg h1, if_neg (fun hh => hh e1), if_neg (fun hh => hh e3)]
 rw [e] at hI ⊢
 dsimp only at hI ⊢
 refine ⟨?_, fun _ h8 => by omega⟩
 rw [see_else (by omega) (by omega) (by omega) (by omega)]
 refine ⟨hI, h.told, rfl, ?_⟩
 cases h.w with
 | idle σ hd2 => rw [hd2] at hd; cases hd
 | sealing d r us n σ τ hd2 => rw [hd2] at hd; cases hd
 | homing d n σ hd2 => rw [hd2] at hd; cases hd
 | off hd hw hu => exact .rising j.disk 0 hd rfl rfl (hu.congr rfl rfl rfl) e4 rfl rfl
 | rising d n hd2 hw => rw [hw] at hw0; cases hw0
theorem w_commit {k : Bk} {j : Jn} {a : Aj} (hk : a.kind = 6) (hd : j.down = false) (h : WJ k j) : WJ (seeB k (commitJ j).1 a (commitJ j).2) (commitJ j).1 /\ seeOk k (commitJ j).1 a (commitJ j).2 := by
 have hI := inv_commit hd h.inv
 by_cases h1 : j.work ≠ 0 \/ openB j.now = true
 ·have e : commitJ j = (j, noR 9) := by unfold commitJ; rw [if_pos h1]
  rw [e]; exact h.bad (show (9 : Int) ≠ 0 by decide)
 by_cases h2 : j.now.mt.length + j.now.dt.length + j.now.rev.length = 0
 ·have e : commitJ j = (j, noR 4) := by unfold commitJ; rw [if_neg h1, if_pos h2]
  rw [e]; exact h.bad (show (4 : Int) ≠ 0 by decide)
 by_cases h3 : 2147483646 <= j.now.seq
 ·have e : commitJ j = (j, noR 11) := by unfold commitJ; rw [if_neg h1, if_neg h2, if_pos h3]
  rw [e]; exact h.bad (show (11 : Int) ≠ 0 by decide)
 by_cases h4 : comE j.ring j.now ≠ 0
 ·have e : commitJ j = (j, noR (comE j.ring j.now)) := by unfold commitJ; rw [if_neg h1, if_neg h2, if_neg h3, if_pos h4]
  rw [e]; exact h.bad h4
 have e : commitJ j = ({ j with used := j.used ++ [(comR j.ring j.now).used - j.ring.used], ring := comR j.ring j.now, sealed := j.now, steps := comL j.ring j.now, work := 1, now := txn0 (j.now.seq + 1) }, ⟨0, j.now.seq, ⟨#[]⟩⟩) := by
  unfold commitJ; rw [if_neg h1, if_neg h2, if_neg h3, if_neg h4]
 have h4' : comE j.ring j.now = 0 := Decidable.byContradiction h4
 have hw0 : j.work = 0 := Decidable.byContradiction fun hh => h1 (.inl hh)
 rw [e] at hI ⊢
 dsimp only at hI ⊢
 refine ⟨?_, fun _ h8 => by omega⟩
 have es : ∀ j2, seeB k j2 a ⟨0, j.now.seq, ⟨#[]⟩⟩ = { k with down := j2.down, sealed := j.now.seq, states := setO k.states j.now.seq (some k.now) } := fun j2 => by
  unfold seeB
  rw [if_neg (fun h => h rfl), if_neg (by omega), if_neg (by omega), if_pos hk]
 rw [es]
 refine ⟨hI, h.told, rfl, ?_⟩
 obtain ⟨u1, u2, u3, u4⟩ := h.inv.up hw0 (.inl hd)
 have hsq := u2.seq
 cases h.w with
 | idle σ hd2 hw hs ht hT hB =>
  refine .sealing j.disk j.ring j.used 0 σ k.now hd rfl (u1.congr rfl rfl) h4' hsq (show j.now.seq < 2147483646 by omega) (show j.now.seq + 1 = j.last + 2 by omega) ?_ rfl rfl (show j.now.seq = j.last + 1 from hsq) ?_ ?_ hT hB.next ⟨fun b s hb hs => ⟨(hB.now b s hb hs).1, .inr ⟨rfl, hs⟩⟩, fun b s hb hs => ⟨.inl (hB.now b s hb hs).1, rfl⟩⟩
  ·show 0 < (comL j.ring j.now).length
   exact com_pos h4'
  ·show setO k.states j.now.seq (some k.now) j.last = some σ
   rw [setO_ne (by omega)]; exact ht
  ·show setO k.states j.now.seq (some k.now) (j.last + 1) = some k.now
   rw [hsq, setO_self]
 | sealing d r us n σ τ hd2 hw => rw [hw] at hw0; cases hw0
 | homing d n σ hd2 hw => rw [hw] at hw0; cases hw0
 | off hd2 => rw [hd] at hd2; cases hd2
 | rising d n hd2 => rw [hd] at hd2; cases hd2
theorem w_check {k : Bk} {j : Jn} {a : Aj} (hk : a.kind = 7) (hd : j.down = false) (h : WJ k j) : WJ (seeB k (checkJ j).1 a (noR (checkJ j).2)) (checkJ j).1 /\ seeOk k (checkJ j).1 a (noR (checkJ j).2) := by
 have hI := inv_check hd h.inv
 by_cases h1 : j.work ≠ 0
 ·have e : checkJ j = (j, 9) := by unfold checkJ; rw [if_pos h1]
  rw [e]; exact h.bad (show (9 : Int) ≠ 0 by decide)
 by_cases h2 : j.done.length = 0
 ·have e : checkJ j = (j, 4) := by unfold checkJ; rw [if_neg h1, if_pos h2]
  rw [e]; exact h.bad (show (4 : Int) ≠ 0 by decide)
 have e : checkJ j = ({ j with after := giveR j.ring j.used.sum, steps := checkL (newestL j.done) j.ring.head (j.last + 1), pending := j.done.length, work := 2 }, 0) := by
  unfold checkJ; rw [if_neg h1, if_neg h2]
 have hw0 : j.work = 0 := Decidable.byContradiction h1
 rw [e] at hI ⊢
 dsimp only at hI ⊢
 refine ⟨?_, fun _ h8 => by omega⟩
 rw [see_else (by omega) (by omega) (by omega) (by omega)]
 refine ⟨hI, h.told, rfl, ?_⟩
 obtain ⟨u1, u2, u3, u4⟩ := h.inv.up hw0 (.inl hd)
 have hb := u1.log.bounds
 have g := newestL_copies u1.log.goods
 cases h.w with
 | idle σ hd2 hw hs ht hT hB =>
  refine .homing j.disk 0 σ hd rfl (u1.congr rfl rfl) u2.seq rfl ?_ rfl rfl hs ht hT (hB.congr rfl rfl rfl rfl)
  show 0 < (checkL (newestL j.done) j.ring.head (j.last + 1)).length
  rw [(check_zero g hb.1 hb.2.1).2]; simp
 | sealing d r us n σ τ hd2 hw => rw [hw] at hw0; cases hw0
 | homing d n σ hd2 hw => rw [hw] at hw0; cases hw0
 | off hd2 => rw [hd] at hd2; cases hd2
 | rising d n hd2 => rw [hd] at hd2; cases hd2
theorem w_change {k : Bk} {j : Jn} {a : Aj} (hk : a.kind = 1 \/ a.kind = 2 \/ a.kind = 3 \/ a.kind = 4 \/ a.kind = 5) (hd : j.down = false) (h : WJ k j) : WJ (seeB k (changeJ j a).1 a (noR (changeJ j a).2)) (changeJ j a).1 /\ seeOk k (changeJ j a).1 a (noR (changeJ j a).2) := by
 have hI := inv_change a hd h.inv
 refine ⟨?_, fun _ h8 => by omega⟩
 have hg := h.inv.now_good hd
 have c1 : (changeJ j a).1.last = j.last := by unfold changeJ; split <;> rfl
 have c2 : (changeJ j a).1.down = j.down := by unfold changeJ; split <;> rfl
 have c3 : (changeJ j a).1.work = j.work := by unfold changeJ; split <;> rfl
 have c4 : (changeJ j a).1.done = j.done := by unfold changeJ; split <;> rfl
 have c5 : (changeJ j a).1.disk = j.disk := by unfold changeJ; split <;> rfl
 have c6 : (changeJ j a).1.sealed = j.sealed := by unfold changeJ; split <;> rfl
 have c7 : (changeJ j a).1.steps = j.steps := by unfold changeJ; split <;> rfl
 have c8 : (changeJ j a).1.ring = j.ring := by unfold changeJ; split <;> rfl
 have c9 : (changeJ j a).1.used = j.used := by unfold changeJ; split <;> rfl
 have c10 : (changeJ j a).1.pending = j.pending := by unfold changeJ; split <;> rfl
 have c11 : (changeJ j a).1.now.seq = j.now.seq := by
  unfold changeJ
  split
  ·exact altT_seq j a
  ·rfl
 have s0 : ∀ j2, (seeB k j2 a (noR (changeJ j a).2)).states = k.states /\ (seeB k j2 a (noR (changeJ j a).2)).sealed = k.sealed /\ (seeB k j2 a (noR (changeJ j a).2)).told = k.told /\ (seeB k j2 a (noR (changeJ j a).2)).down = j2.down := fun j2 => by
  unfold seeB
  split
  ·exact ⟨rfl, rfl, rfl, rfl⟩
  split
  ·exact ⟨rfl, rfl, rfl, rfl⟩
  split
  ·exact ⟨rfl, rfl, rfl, rfl⟩
  rw [if_neg (by omega), if_neg (by omega)]
  exact ⟨rfl, rfl, rfl, rfl⟩
 obtain ⟨s1, s2, s3, s4⟩ := s0 (changeJ j a).1
 have hbc := fun {β : Int -> Option ByteArray} {n : Int} (hq : j.now.seq = n + 1) (hn : j.last <= n) (v : BaseW k j β n) => base_change hg hq hn v hk (changeJ j a).1
 generalize seeB k (changeJ j a).1 a (noR (changeJ j a).2) = k2 at *
 generalize (changeJ j a).1 = j2 at *
 refine ⟨hI, by rw [s3, c1]; exact h.told, s4, ?_⟩
 cases h.w with
 | idle σ hd2 hw hs ht hT hB =>
  obtain ⟨u1, u2, u3, u4⟩ := h.inv.up hw (.inl hd)
  exact .idle σ (by rw [c2]; exact hd) (by rw [c3]; exact hw) (by rw [s2, c1]; exact hs) (by rw [s1, c1]; exact ht) (by rw [c4, c5]; exact hT) (by rw [c1]; exact hbc u2.seq (Int.le_refl _) hB)
 | sealing d r us n σ τ hd2 hw hu he hq hq2 hsq hn hdk hst hs ht ht2 hT hN hB =>
  exact .sealing d r us n σ τ (by rw [c2]; exact hd) (by rw [c3]; exact hw) (hu.congr c4 c1) (by rw [c6]; exact he) (by rw [c6, c1]; exact hq) (by rw [c6]; exact hq2) (by rw [c11, c1]; exact hsq) (by rw [c6]; exact hn) (by rw [c5, c6]; exact hdk) (by rw [c7, c6]; exact hst) (by rw [s2, c1]; exact hs) (by rw [s1, c1]; exact ht) (by rw [s1, c1]; exact ht2) (by rw [c4]; exact hT) (by rw [c6]; exact hN) (by rw [c1]; exact hbc (by omega) (by omega) hB)
 | homing d n σ hd2 hw hu hsq hp hn hdk hst hs ht hT hB =>
  exact .homing d n σ (by rw [c2]; exact hd) (by rw [c3]; exact hw) (by rw [c8, c9]; exact hu.congr c4 c1) (by rw [c11, c1]; exact hsq) (by rw [c10, c4]; exact hp) (by rw [c4, c8, c1]; exact hn) (by rw [c5, c4, c8, c1]; exact hdk) (by rw [c7, c4, c8, c1]; exact hst) (by rw [s2, c1]; exact hs) (by rw [s1, c1]; exact ht) (by rw [c4]; exact hT) (by rw [c1]; exact hbc hsq (Int.le_refl _) hB)
 | off hd2 => rw [hd] at hd2; cases hd2
 | rising d n hd2 => rw [hd] at hd2; cases hd2
theorem see_step {k : Bk} {j : Jn} {a : Aj} {r : Rep} (hk : a.kind = 8) (hr : r.code = 0) (h : k.down = false \/ j.down = true) : seeB k j a r = { k with down := j.down, told := if 0 < r.n then r.n else k.told } /\ seeOk k j a r := by
 refine ⟨?_, fun _ _ h1 h2 => ?_⟩
 ·unfold seeB
  rw [if_neg (fun hh => hh hr), if_neg (by omega), if_neg (by omega), if_neg (by omega), if_pos hk, if_pos h]
 ·rcases h with h | h
  ·rw [h1] at h; cases h
  ·rw [h2] at h; cases h
theorem last_rep {L r : List Stp} {n : Nat} (hk : n < L.length) (e3 : r = L.drop (n + 1)) : (r = [] -> n + 1 = L.length) /\ (r ≠ [] -> n + 1 < L.length) := by
 have hl : r.length = L.length - (n + 1) := by rw [e3, List.length_drop]
 refine ⟨fun h => ?_, fun h => ?_⟩
 ·rw [h, List.length_nil] at hl; omega
 ·have : r.length ≠ 0 := fun h0 => h (List.eq_nil_of_length_eq_zero h0)
  omega
theorem w_step {k : Bk} {j : Jn} {a : Aj} (hk8 : a.kind = 8) (h : WJ k j) : WJ (seeB k (stepJ j).1 a (stepJ j).2) (stepJ j).1 /\ seeOk k (stepJ j).1 a (stepJ j).2 := by
 have hI := inv_step h.inv
 by_cases hw0 : j.work = 0
 ·have e : stepJ j = (j, noR 4) := by unfold stepJ; rw [if_pos hw0]
  rw [e]; exact h.bad (show (4 : Int) ≠ 0 by decide)
 obtain ⟨s, r, hs, he⟩ := inv_steps h.inv hw0
 have e : stepJ j = if r = [] then endJ { j with disk := stepD j.disk s, steps := [] } else ({ j with disk := stepD j.disk s, steps := r }, noR 0) := by
  unfold stepJ
  rw [if_neg hw0, hs]
  dsimp only
  rw [if_neg (by rw [he]; decide)]
 have htold := h.told
 have hdn := h.dn
 cases h.w with
 | idle σ hd2 hw => exact absurd hw hw0
 | off hd2 hw => exact absurd hw hw0
 | sealing d rg us n σ τ hd hw hu hc hq hq2 hsq hn hdk hst hsl ht ht2 hT hN hB =>
  obtain ⟨ho, hlen⟩ := com_ok hc
  obtain ⟨_, e2, e3⟩ := step_of hu.log.good hu.log.clean ho (by omega) hn hdk (hs.symm.trans hst)
  obtain ⟨l1, l2⟩ := last_rep hn e3
  have hla := hu.last
  by_cases hr0 : r = []
  ·have e' : stepJ j = ({ j with disk := stepD j.disk s, steps := [], work := 0, last := j.sealed.seq, done := j.done ++ [j.sealed], sealed := txn0 0 }, ⟨0, j.sealed.seq, ⟨#[]⟩⟩) := by
     rw [e, if_pos hr0]; unfold endJ; dsimp only; rw [if_pos hw]
   rw [e'] at hI ⊢
   dsimp only at hI ⊢
   obtain ⟨p1, p2⟩ := see_step (k := k) (j := { j with disk := stepD j.disk s, steps := [], work := 0, last := j.sealed.seq, done := j.done ++ [j.sealed], sealed := txn0 0 }) (r := ⟨0, j.sealed.seq, ⟨#[]⟩⟩) hk8 rfl (.inl (hdn.trans hd))
   rw [p1]
   have hpos : 0 < j.sealed.seq := by omega
   refine ⟨⟨hI, ?_, rfl, ?_⟩, p2⟩
   ·show (if 0 < j.sealed.seq then j.sealed.seq else k.told) = j.sealed.seq
    rw [if_pos hpos]
   ·refine .idle τ hd rfl ?_ ?_ ?_ ?_
    ·show k.sealed = j.sealed.seq; omega
    ·show k.states j.sealed.seq = some τ; rw [hq]; exact ht2
    ·show TellsW τ (j.done ++ [j.sealed]) (stepD j.disk s)
     rw [e2, l1 hr0, List.take_length]
     exact com_tells_end hu.log hT hN hc
    ·show BaseW _ _ τ j.sealed.seq
     rw [hq]
     exact hB.congr rfl rfl rfl rfl
  ·have e' : stepJ j = ({ j with disk := stepD j.disk s, steps := r }, noR 0) := by rw [e, if_neg hr0]
   rw [e'] at hI ⊢
   dsimp only at hI ⊢
   obtain ⟨p1, p2⟩ := see_step (k := k) (j := { j with disk := stepD j.disk s, steps := r }) (r := noR 0) hk8 rfl (.inl (hdn.trans hd))
   rw [p1]
   exact ⟨⟨hI, htold, rfl, .sealing d rg us (n + 1) σ τ hd hw (hu.congr rfl rfl) hc hq hq2 hsq (l2 hr0) e2 e3 hsl ht ht2 hT hN (hB.congr rfl rfl rfl rfl)⟩, p2⟩
 | homing d n σ hd hw hu hsq hp hn hdk hst hsl ht hT hB =>
  have hb := hu.log.bounds
  obtain ⟨ho, hlen⟩ := chk_ok (newestL_copies hu.log.goods) hb.1 hb.2.1
  obtain ⟨_, e2, e3⟩ := step_of hu.log.good hu.log.clean ho (by omega) hn hdk (hs.symm.trans hst)
  obtain ⟨l1, l2⟩ := last_rep hn e3
  by_cases hr0 : r = []
  ·have e' : stepJ j = ({ j with disk := stepD j.disk s, steps := [], work := 0, ring := j.after, done := j.done.drop j.pending.toNat, used := j.used.drop j.pending.toNat }, noR 0) := by
     rw [e, if_pos hr0]; unfold endJ; dsimp only; rw [if_neg (by omega), if_pos hw]
   rw [e'] at hI ⊢
   dsimp only at hI ⊢
   obtain ⟨p1, p2⟩ := see_step (k := k) (j := { j with disk := stepD j.disk s, steps := [], work := 0, ring := j.after, done := j.done.drop j.pending.toNat, used := j.used.drop j.pending.toNat }) (r := noR 0) hk8 rfl (.inl (hdn.trans hd))
   rw [p1]
   refine ⟨⟨hI, htold, rfl, .idle σ hd rfl hsl ht ?_ (hB.congr rfl rfl rfl rfl)⟩, p2⟩
   show TellsW σ (j.done.drop j.pending.toNat) (stepD j.disk s)
   rw [hp, Int.toNat_natCast, List.drop_length, e2, l1 hr0, List.take_length]
   exact chk_tells_end hu.log hT
  ·have e' : stepJ j = ({ j with disk := stepD j.disk s, steps := r }, noR 0) := by rw [e, if_neg hr0]
   rw [e'] at hI ⊢
   dsimp only at hI ⊢
   obtain ⟨p1, p2⟩ := see_step (k := k) (j := { j with disk := stepD j.disk s, steps := r }) (r := noR 0) hk8 rfl (.inl (hdn.trans hd))
   rw [p1]
   exact ⟨⟨hI, htold, rfl, .homing d (n + 1) σ hd hw (hu.congr rfl rfl) hsq hp (l2 hr0) e2 e3 hsl ht hT (hB.congr rfl rfl rfl rfl)⟩, p2⟩
 | rising d n hd hw hf hu hn hdk hst =>
  obtain ⟨txs, q, ah, u, σ, hL, h2, h3, h4, h5⟩ := hu.ex
  obtain ⟨b1, b2⟩ := scan_bounds hL.scan
  obtain ⟨ho, hlen⟩ := chk_ok (newestL_copies hL.goods2) b1 b2
  obtain ⟨_, e2, e3⟩ := step_of hL.good hL.clean ho (by omega) hn hdk (hs.symm.trans hst)
  obtain ⟨l1, l2⟩ := last_rep hn e3
  by_cases hr0 : r = []
  ·have e' : stepJ j = (riseJ { j with disk := stepD j.disk s, steps := [], work := 0 }, noR 0) := by
     rw [e, if_pos hr0]; unfold endJ; dsimp only; rw [if_neg (by omega), if_neg (by omega), if_pos hw]
   have hdT : stepD j.disk s = runD d (checkL (newestL txs) ah q) := by
    rw [e2, l1 hr0, List.take_length, hL.found]
    dsimp only
    rw [newestL_log]
   have hT := chk_tells_end hL h5
   rw [<- hdT] at hT
   rw [e'] at hI ⊢
   dsimp only at hI ⊢
   have hlast : (riseJ { j with disk := stepD j.disk s, steps := [], work := 0 }).last = q - 1 := by
    show j.found.next - 1 = q - 1
    rw [hf, hL.found]
   have hhome : homeOk σ (stepD j.disk s) := fun b hb s hs => (hT b s hb hs).1
   have hkd : k.down = true := hdn.trans hd
   have hroles : (riseJ { j with disk := stepD j.disk s, steps := [], work := 0 }).roles = riseR (txs.map logOf) := by
    show riseR j.found.txns = _
    rw [hf, hL.found]
   have hrl : ∀ (l : List Txn) (f : Int -> Int), (l.map logOf).foldl riseT f = l.foldl riseT f := fun l => by
    induction l with
    | nil => intro f; rfl
    | cons x l ih => intro f; rw [List.map_cons, List.foldl_cons, List.foldl_cons, ih]; rfl
   have hroles2 : (riseJ { j with disk := stepD j.disk s, steps := [], work := 0 }).roles = riseR txs := by rw [hroles]; exact hrl txs _
   have hst : k.states (riseJ { j with disk := stepD j.disk s, steps := [], work := 0 }).last = some σ := by rw [hlast]; exact h4
   have es : seeB k (riseJ { j with disk := stepD j.disk s, steps := [], work := 0 }) a (noR 0) = { k with down := false, now := σ, told := (riseJ { j with disk := stepD j.disk s, steps := [], work := 0 }).last, sealed := (riseJ { j with disk := stepD j.disk s, steps := [], work := 0 }).last } := by
    unfold seeB stateB
    rw [if_neg (fun hh => hh rfl), if_neg (by omega), if_neg (by omega), if_neg (by omega), if_pos hk8, if_neg, hst]
    ·rfl
    ·intro hh
     rcases hh with hh | hh
     ·rw [hkd] at hh; cases hh
     ·exact Bool.false_ne_true hh
   rw [es]
   refine ⟨⟨hI, rfl, rfl, .idle σ rfl rfl rfl hst hT ⟨fun b s hb hs => ⟨?_, .inr ⟨rfl, hs⟩⟩, fun b s hb hs => ⟨.inl ?_, rfl⟩⟩⟩, fun _ _ _ _ => ⟨σ, hst, ?_, ?_, hhome⟩⟩
   ·rw [hroles2]; exact (h5 b s hb hs).2
   ·rw [hroles2]; exact (h5 b s hb hs).2
   ·rw [hlast, if_neg (show ¬ (noR 0).n > 0 from (show ¬ (0 : Int) < 0 by decide))]; omega
   ·rw [hlast]; omega
  ·have e' : stepJ j = ({ j with disk := stepD j.disk s, steps := r }, noR 0) := by rw [e, if_neg hr0]
   rw [e'] at hI ⊢
   dsimp only at hI ⊢
   obtain ⟨p1, p2⟩ := see_step (k := k) (j := { j with disk := stepD j.disk s, steps := r }) (r := noR 0) hk8 rfl (.inr hd)
   rw [p1]
   exact ⟨⟨hI, htold, rfl, .rising d (n + 1) hd hw hf (hu.congr rfl rfl rfl) (l2 hr0) e2 e3⟩, p2⟩
theorem whole_do {k : Bk} {j : Jn} (a : Aj) (h : WJ k j) : WJ (seeB k (doJ j a).1 a (doJ j a).2) (doJ j a).1 /\ seeOk k (doJ j a).1 a (doJ j a).2 := by
 by_cases c0 : 400 <= j.acts
 ·have e : doJ j a = (j, noR 11) := by unfold doJ; rw [if_pos c0]
  rw [e]; exact h.bad (show (11 : Int) ≠ 0 by decide)
 have hA := h.acts (j.acts + 1)
 by_cases c1 : a.kind < 1 \/ 11 < a.kind
 ·have e : doJ j a = ({ j with acts := j.acts + 1 }, noR 3) := by unfold doJ; rw [if_neg c0, if_pos c1]
  rw [e]; exact hA.bad (show (3 : Int) ≠ 0 by decide)
 by_cases hk10 : a.kind = 10
 ·have e : doJ j a = noJ (crashJ { j with acts := j.acts + 1 } a.n) := by unfold doJ; rw [if_neg c0, if_neg c1, if_pos hk10]
  rw [e]; exact w_crash hk10 hA
 by_cases hk11 : a.kind = 11
 ·have e : doJ j a = noJ (beginJ { j with acts := j.acts + 1 }) := by unfold doJ; rw [if_neg c0, if_neg c1, if_neg hk10, if_pos hk11]
  rw [e]; exact w_begin hk11 hA
 by_cases hk8 : a.kind = 8
 ·have e : doJ j a = stepJ { j with acts := j.acts + 1 } := by unfold doJ; rw [if_neg c0, if_neg c1, if_neg hk10, if_neg hk11, if_pos hk8]
  rw [e]; exact w_step hk8 hA
 by_cases hd1 : j.down = true
 ·have e : doJ j a = ({ j with acts := j.acts + 1 }, noR 10) := by unfold doJ; rw [if_neg c0, if_neg c1, if_neg hk10, if_neg hk11, if_neg hk8, if_pos hd1]
  rw [e]; exact hA.bad (show (10 : Int) ≠ 0 by decide)
 have hd : j.down = false := by simpa using hd1
 by_cases hk6 : a.kind = 6
 ·have e : doJ j a = commitJ { j with acts := j.acts + 1 } := by unfold doJ; rw [if_neg c0, if_neg c1, if_neg hk10, if_neg hk11, if_neg hk8, if_neg hd1, if_pos hk6]
  rw [e]; exact w_commit hk6 (by exact hd) hA
 by_cases hk7 : a.kind = 7
 ·have e : doJ j a = noJ (checkJ { j with acts := j.acts + 1 }) := by unfold doJ; rw [if_neg c0, if_neg c1, if_neg hk10, if_neg hk11, if_neg hk8, if_neg hd1, if_neg hk6, if_pos hk7]
  rw [e]; exact w_check hk7 (by exact hd) hA
 by_cases hk9 : a.kind = 9
 ·have e : doJ j a = ({ j with acts := j.acts + 1 }, readJ { j with acts := j.acts + 1 } a.b) := by unfold doJ; rw [if_neg c0, if_neg c1, if_neg hk10, if_neg hk11, if_neg hk8, if_neg hd1, if_neg hk6, if_neg hk7, if_pos hk9]
  rw [e]
  refine ⟨?_, fun _ h8 => by omega⟩
  rw [see_else (by omega) (by omega) (by omega) (by omega)]
  exact ⟨hA.inv, hA.told, rfl, hA.w.same _ (j.acts + 1)⟩
 ·have e : doJ j a = noJ (changeJ { j with acts := j.acts + 1 } a) := by unfold doJ; rw [if_neg c0, if_neg c1, if_neg hk10, if_neg hk11, if_neg hk8, if_neg hd1, if_neg hk6, if_neg hk7, if_neg hk9]
  rw [e]; exact w_change (by omega) (by exact hd) hA
theorem whole_new : WJ bk0 newJ := by
 have e : bk0.states newJ.last = some fun _ => none := rfl
 have hB : BaseW bk0 newJ (fun _ => none) newJ.last := ⟨fun b s _ hs => absurd hs (by unfold bk0; simp), fun b s _ hs => absurd hs (by simp)⟩
 exact ⟨inv_new, rfl, rfl, .idle (fun _ => none) rfl rfl rfl e (fun b s _ hs => absurd hs (by simp)) hB⟩
end Wb
namespace Wb
open Go Go.RowKit Go.MapKept
def runCnt (w : World) (r b : Nat) : Nat := match w.heap[r]?, w.heap[b]? with
 | some (.mapIter _ _ seen _), some (.map es _) => (leftOf es seen).size
 | _, _ => 0
theorem MRun.cnt_eq {w : World} {r b : Nat} {f left : Int -> Option Value} {cnt : Nat} (h : MRun w r b f left cnt) : runCnt w r b = cnt := by
 obtain ⟨es, clock, since, c0, seen, h1, h2, h3, h4, h5, h6, h7, h8, h9, h10⟩ := h
 unfold runCnt
 rw [h1, h2]
 exact h10.symm
theorem txtV_has {f : Int -> Option ByteArray} {k : Int} {v : Value} (h : txtV f k = some v) : ∃ s, f k = some s /\ v = .string s := by
 unfold txtV at h
 cases hf : f k with
 | none => rw [hf] at h; cases h
 | some s => rw [hf] at h; exact ⟨s, rfl, (Option.some.inj h).symm⟩
end Wb
namespace Go.Proofs.YtjhmfljlclajnacGreatDoor
open Go.RowKit Wb
theorem tw_copied {w : World} {m : Nat} {f : Int -> Option ByteArray} (im : IMap w m (txtV f)) :
    Calls Tryz.prog 66 #[.map (some m)] w fun e w' => ∃ g, e = .returned (.map (some g)) /\ IMap w' g (txtV f) /\ w.heap.size <= g /\ Below w.heap.size w w' := by
 have hmm := @run_makeMap Tryz.prog
 have e1 : (w.alloc (.map #[] 0)).heap.size = w.heap.size + 1 := by simp
 obtain ⟨ob, cnt0, hrg, hM0⟩ := (im.alloc (.map #[] 0)).range (P := Tryz.prog) (t := 69) Tryz.underlying69
 have imo := (IMap.made w).alloc ob
 rw [e1] at hrg hM0
 have hlt := im.lt
 replace im := hid im; replace imo := hid imo; replace hM0 := hid hM0
 go_enter Tryz.func66, Tryz.ntmps66
 go_wp2
 go_loopw [4, 5] (fun _ _ wr => ∃ (left : Int -> Option Value) (cnt : Nat) (fo : Int -> Option Value), MRun wr (w.heap.size + 1) m (txtV f) left cnt /\ IMap wr w.heap.size fo /\ (∀ k, fo k = if left k = none then txtV f k else none) /\ Below w.heap.size w wr) (fun _ _ wr => runCnt wr (w.heap.size + 1) m)
 case atStart =>
  refine ⟨_, _, _, hM0.out, imo.out, fun k => ?_, bal (bal (b0 w) _) _⟩
  cases h : txtV f k with
  | none => rw [if_pos rfl]
  | some v => rw [if_neg (by simp)]
 case round =>
  clear hM0 imo hrg hmm
  obtain ⟨left, cnt, fo, hM, imo, hfo, hb⟩ := hrel
  replace hfo := hid hfo
  have hl3 := hM.lt
  rcases hM.next (P := Tryz.prog) 0 with ⟨hn, hrun⟩ | ⟨k, v, w1, c1, hk, hrun, hM1, hc, ht, hen⟩
  ·replace hn := hid hn
   go_wp2
   go_ret
   exact ⟨_, rfl, imo.congr (fun k => by rw [hfo.out, if_pos (hn.out k)]), Nat.le_refl _, hb⟩
  ·obtain ⟨s, hs, rfl⟩ := txtV_has (hM.le hk)
   have imo1 := ht.imap imo (by omega)
   obtain ⟨w2, hr2, im2, ht2⟩ := imo1.update (P := Tryz.prog) Tryz.underlying69 Tryz.underlying3 k (.string s)
   have hM2 := hid (hM1.same (ht2.block _ (by omega)) (ht2.block _ (by omega)))
   have hb2 := hid (ht2.below (ht.below hb (by omega)) (Nat.le_refl _))
   have hcc : Hid (runCnt w2 (w.heap.size + 1) m < runCnt wr (w.heap.size + 1) m) := hid (by rw [hM2.out.cnt_eq, hM.cnt_eq]; exact hc)
   replace hk := hid hk; replace hs := hid hs; replace im2 := hid im2
   clear hM hM1 imo imo1 ht ht2 hb
   go_wp2
   go_roundw
   case rel =>
    refine ⟨_, c1, _, hM2.out, im2.out, fun x => ?_, hb2.out⟩
    have hfo := hfo.out x
    by_cases hx : x = k
    ·subst hx
     rw [if_pos rfl, if_pos (by rw [if_pos rfl])]
     unfold txtV; rw [hs.out]; rfl
    ·rw [if_neg hx, hfo]
     simp only [if_neg hx]
   case measure => exact hcc.out
theorem jr_check (K : JK) {S : List Nat} {w0 w : World} {L : List Ent} {R : List Rd} {gj : Nat} {j : Jn} {M : List Ent} {Rj : List Rd} (F : JF gj j M Rj) (X : St S w0 w (M ++ L) (Rj ++ R)) (hF : flR 0 ∈ R) :
    Calls Tryz.prog 39 #[.pointer (some ⟨gj, 0, none⟩)] w fun e w' => ∃ M' Rj', e = .returned (.int .i64 (checkJ j).2) /\ JF gj (checkJ j).1 M' Rj' /\ St S w0 w' (M' ++ L) (Rj' ++ R) := by
 obtain ⟨v, ds, fs, MD, MU, hm, rfl, rfl⟩ := F
 have hsz := hm.inv.sz hm.sz
 rw [List.cons_append] at X
 unfold jCells at X
 by_cases hw : j.work = 0
 ·have hw2 : (j.work != 0) = false := by simpa using hw
  by_cases hd : j.done.length = 0
  ·have hJ : checkJ j = (j, 4) := by unfold checkJ; rw [if_neg (not_not_intro hw), if_pos hd]
   rw [hJ]
   dsimp only
   have hd2 : ((j.done.length : Int) == 0) = true := by rw [hd]; rfl
   clear hw hd
   go_enter Tryz.func39, Tryz.ntmps39
   go_wp2_with (first
    | (refine ZeL ?_) | (refine ZeS ?_; clear X; intro w X) | (refine ZeA ?_; clear X; intro g w X))
   go_ret
   exact ⟨_, _, rfl, ⟨v, ds, fs, MD, MU, hm, rfl, rfl⟩, X⟩
  ·obtain ⟨hu, hn, hs, hdn⟩ := hm.inv.up hw (.inr hd)
   have hJ : checkJ j = ({ j with after := giveR j.ring j.used.sum, steps := checkL (newestL j.done) j.ring.head (j.last + 1), pending := j.done.length, work := 2 }, 0) := by unfold checkJ; rw [if_neg (not_not_intro hw), if_neg hd]
   have hI := inv_check hdn hm.inv
   rw [hJ] at hI ⊢
   dsimp only at hI ⊢
   have hd2 : ((j.done.length : Int) == 0) = false := beq_eq_false_iff_ne.2 (by omega)
   have hgr := (goodR_iff _).1 hu.ring
   have hsum : ∀ k, 0 <= (j.used.take k).sum /\ (j.used.take k).sum <= 24 := fun k => by
    have := sum_take_le hu.pos k
    rw [hu.sum] at this
    omega
   have hst := fun k (hk : k < j.used.length) => sum_step hk
   have hg := newestL_copies hu.log.goods
   have hb := hu.log.bounds
   have hck := (chk_ok hg hb.1 hb.2.1).2
   have hul := hsz.used
   have hlast : IntKind.i64.wrap (j.last + 1) = j.last + 1 := IntWalk.i64_in _ (by have := hu.last; omega)
   have hNw := fun v w (h : RTxns w v j.done) => K.newest j.done hu.log.goods v w h
   have hCk := fun v w (h : RL cpyC w v (newestL j.done)) hF => K.check (newestL j.done) j.ring.head (j.last + 1) v w h (by have := copies_len hg; omega) hF
   have hGi := fun w => K.give j.ring j.used.sum w
   unfold Ring.val at hGi
   clear hw hd hu hn hs hdn hJ hg hb hgr
   generalize checkE (newestL j.done) j.ring.head (j.last + 1) = cE at *
   generalize checkL (newestL j.done) j.ring.head (j.last + 1) = ST at *
   generalize newestL j.done = NL at *
   generalize giveE j.ring j.used.sum = gE at *
   generalize giveR j.ring j.used.sum = gR at *
   replace hNw := hid hNw; replace hCk := hid hCk; replace hGi := hid hGi; replace hsum := hid hsum; replace hst := hid hst; replace hI := hid hI; replace hck := hid hck; replace hm := hid hm; replace hsz := hid hsz
   go_enter Tryz.func39, Tryz.ntmps39
   go_wp2_with (first
    | (refine ZeL ?_) | (refine ZeS ?_; clear X; intro w X) | (refine ZeA ?_; clear X; intro g w X))
   go_loopw [3, 24] (fun s i wr => ∃ k : Nat, k <= j.used.length /\ s = .int .i64 (j.used.take k).sum /\ i = .int .i64 k /\ St S w0 wr (⟨gj, jCells v j, 82⟩ :: (MD ++ MU ++ L)) (jRds v j ds fs ++ R)) (fun _ i _ => j.used.length - (intOf i).toNat)
   case atStart => exact ⟨0, Nat.zero_le _, rfl, rfl, X⟩
   case round =>
    clear X
    obtain ⟨k, hk, rfl, rfl, X⟩ := hrel
    by_cases hlt : k < j.used.length
    ·obtain ⟨b4, off4, hb4, d0⟩ := RL.at1 (fun x : Int => .int .i64 x) (fun _ => rfl) (X.jUsed hm.out) hlt
     rw [hb4]
     have h1 := hst.out k hlt
     have h2 := hsum.out (k + 1)
     have hwr : IntKind.i64.wrap ((j.used.take k).sum + j.used[k]) = (j.used.take (k + 1)).sum := by rw [h1]; exact IntWalk.i64_in _ (by rw [<- h1]; omega)
     clear h1 h2
     generalize j.used[k] = x at *
     generalize hs1 : (j.used.take (k + 1)).sum = s1 at *
     generalize (j.used.take k).sum = s0 at *
     replace hs1 := hid hs1
     go_wp2
     go_roundw
     case rel => exact ⟨k + 1, by omega, by rw [hs1.out], by go_num, X⟩
     case measure => simp [intOf]; omega
    ·obtain rfl : k = j.used.length := by omega
     rw [List.take_length]
     unfold jCells at X
     clear hst hsum hk hlt
     go_upto_region 12 with (first
      | (refine ZeL ?_) | (refine ZeS ?_; clear X; intro w X) | (refine ZeA ?_; clear X; intro g w X)
      | (go_at_call 81; ((with_reducible refine (hGi.out _).mono ?_); rintro e w1 ⟨rfl, hb1⟩; replace X := X.call hb1; clear hb1)))
     (refine q_startS 1 [22] [5, 16, 22] [4, 10, 14] [0, 1, 2, 3, 4, 6, 7, 8, 9, 10, 11, 12, 13, 14, 15, 5, 16, 17, 18, 19, 20, 21, 22] X ?_; clear X; intro hQ X hL; simp only [zF, zG] at hL; simp only [zF, zG])
     refine Zm ?_
     refine Zm ?_
     refine Zn ?_
     refine Zf ?_
     refine Zl ?_
     refine Zm ?_
     refine Zn ?_
     refine Zf ?_
     refine Zf ?_
     refine Zl ?_
     refine Zm ?_
     refine Zn ?_
     refine Zf ?_
     refine Zl ?_
     refine Zg ?_
     (refine q_callS 82 Tryz.func82 (hNw.out _ _ (X.jDone2 hm.out hsz.out (fun r hr => List.mem_append_left _ hr))) ?_; rintro e w1 ⟨v1, rfl, ho1, hb1⟩; obtain ⟨a1, c1, rfl⟩ := ho1.form; replace X := X.addOwn hb1 ho1; clear hb1 ho1; refine Zce ?_; clear hL; intro hL)
     (refine q_callS 76 Tryz.func76 (hCk.out _ _ X.r0 (X.rd _ (List.Mem.tail _ (List.mem_append_right _ hF))).1) ?_; rintro e w1 ⟨v3, rfl, ho1, hb1⟩; obtain ⟨a3, c3, rfl⟩ := ho1.form; replace X := X.addOwn hb1 ho1; clear hb1 ho1; refine Zce ?_; clear hL; intro hL)
     refine Zm ?_
     refine Zx ?_
     refine Zx ?_
     refine Zn ?_
     refine Zf ?_
     (refine Zb ?_; clear X; intro w X)
     refine q_nil ?_
     go_wp2_with (first
      | (refine ZeL ?_) | (refine ZeS ?_; clear X; intro w X) | (refine ZeA ?_; clear X; intro g w X))
     go_ret
     refine ⟨_, _, rfl, ⟨{ v with st := ⟨a3, c3⟩ }, ds, fs, MD, MU, ⟨hm.out.dn, hm.out.us, hm.out.dmap, hm.out.fmap, hm.out.dfit, hm.out.ffit, hI.out, ⟨hm.out.sz.1, ?_⟩⟩, rfl, rfl⟩, ?_⟩
     ·have := hck.out
      show ST.length <= 100
      omega
     ·exact X.rds (jRds_sub Zfl Zfl Zfl Zfl Zfl Zfl Zfl Zfl Zfl Zfl (fun r hr => .tail _ (.tail _ (inF_in r hr))) (fun r hr => .tail _ (.tail _ (inD_in r hr))) (fun r hr => .tail _ (.tail _ (List.mem_append_right _ hr))))
 ·have hJ : checkJ j = (j, 9) := by unfold checkJ; rw [if_pos hw]
  rw [hJ]
  dsimp only
  have hw2 : (j.work != 0) = true := by simpa using hw
  clear hw
  go_enter Tryz.func39, Tryz.ntmps39
  go_wp2_with (first
   | (refine ZeL ?_) | (refine ZeS ?_; clear X; intro w X) | (refine ZeA ?_; clear X; intro g w X))
  go_ret
  exact ⟨_, _, rfl, ⟨v, ds, fs, MD, MU, hm, rfl, rfl⟩, X⟩
theorem _root_.Wb.InvJ.off' {j : Jn} (h : InvJ j) (hd : j.down = true) (hw : j.work = 0) : DnI j.disk j.last /\ j.found = fnd0 := by
 cases h with
 | idle hd0 => rw [hd0] at hd; cases hd
 | sealing d r us k hd0 => rw [hd0] at hd; cases hd
 | homing d k hd0 => rw [hd0] at hd; cases hd
 | off hj hu => exact ⟨hu, by rw [hj]; rfl⟩
 | rising d k hj => rw [hj] at hw; cases hw
theorem jr_begin (K : JK) {S : List Nat} {w0 w : World} {L : List Ent} {R : List Rd} {gj : Nat} {j : Jn} {M : List Ent} {Rj : List Rd} (F : JF gj j M Rj) (X : St S w0 w (M ++ L) (Rj ++ R)) (hF : flR 0 ∈ R) :
    Calls Tryz.prog 36 #[.pointer (some ⟨gj, 0, none⟩)] w fun e w' => ∃ M' Rj', e = .returned (.int .i64 (beginJ j).2) /\ JF gj (beginJ j).1 M' Rj' /\ St S w0 w' (M' ++ L) (Rj' ++ R) := by
 obtain ⟨v, ds, fs, MD, MU, hm, rfl, rfl⟩ := F
 have hsz := hm.inv.sz hm.sz
 have hdk := hsz.dk
 rw [List.cons_append] at X
 unfold jCells at X
 by_cases hd : j.down = false
 ·have hJ : beginJ j = (j, 9) := by unfold beginJ; rw [if_pos (.inl hd)]
  rw [hJ]
  dsimp only
  go_enter Tryz.func36, Tryz.ntmps36
  go_wp2_with (first
   | (refine ZhL ?_) | (refine ZhS ?_; clear X; intro w X) | (refine ZhA ?_; clear X; intro g w X))
  go_ret
  exact ⟨_, _, rfl, ⟨v, ds, fs, MD, MU, hm, rfl, rfl⟩, X⟩
 ·have hdt : j.down = true := by simpa using hd
  by_cases hw : j.work = 0
  ·obtain ⟨hdn, hfd⟩ := hm.inv.off' hdt hw
   obtain ⟨e1, e2, e3, e4, e5⟩ := hdn.scan
   have hJ : beginJ j = ({ j with found := scanF j.disk, steps := checkL (newestL (scanF j.disk).txns) (scanF j.disk).at_ (scanF j.disk).next, work := 3 }, 0) := by unfold beginJ; rw [if_neg (by rw [hdt, hw]; simp), if_neg (by rw [e1]; decide), if_neg (by rw [e3]; decide)]
   have hI := inv_begin hm.inv
   rw [hJ] at hI ⊢
   dsimp only at hI ⊢
   have hw2 : (j.work != 0) = false := by simpa using hw
   have hg := newestL_copies e2
   obtain ⟨b1, b2⟩ := scan_bounds e1
   have hck := (chk_ok hg b1 b2).2
   have hSc := fun v w (h : RDisk w v j.disk) => K.scan j.disk v w h
   rw [e1] at hSc
   have hRp := fun v w (h : RTxns w v (scanF j.disk).txns) => K.replay (scanF j.disk).txns e2 v w h
   have hCk := fun v w (h : RL cpyC w v (newestL (scanF j.disk).txns)) hF => K.check (newestL (scanF j.disk).txns) (scanF j.disk).at_ (scanF j.disk).next v w h (by have := copies_len hg; omega) hF
   rw [e3] at hCk
   clear hJ hd hw e1 e2 e3 e4 hg b1 b2 hdn
   generalize checkL (newestL (scanF j.disk).txns) (scanF j.disk).at_ (scanF j.disk).next = ST at *
   generalize newestL (scanF j.disk).txns = NL at *
   generalize scanF j.disk = FF at *
   obtain ⟨fl, fn, fa⟩ := FF
   dsimp only at *
   replace hSc := hid hSc; replace hRp := hid hRp; replace hCk := hid hCk; replace hI := hid hI; replace hck := hid hck; replace hm := hid hm; replace hsz := hid hsz; replace hfd := hid hfd
   go_enter Tryz.func36, Tryz.ntmps36
   go_upto_region 7 with (first
    | (refine ZhL ?_) | (refine ZhS ?_; clear X; intro w X) | (refine ZhA ?_; clear X; intro g w X)
    | (go_at_call 75; ((with_reducible refine (hSc.out _ _ (X.jDisk hdk (fun r hr => List.mem_append_left _ hr))).mono ?_); rintro e w2 ⟨vt, rfl, of1, hb2⟩; obtain ⟨at1, ct1, rfl⟩ := of1.form; obtain ⟨xs, hxs, hxf, X2⟩ := X.addOTxns hb2 of1; replace X := X2; clear hb2 of1 X2)))
   have hxl : xs.length <= 1099511627744 := by have := congrArg List.length hxs; simp at this; omega
   (refine q_startS 1 [] [3, 8, 14] [2, 5, 7] [0, 1, 2, 4, 5, 6, 7, 3, 8, 9, 10, 11, 12, 13, 14, 15] X ?_; clear X; intro hQ X hL; simp only [zF, zG] at hL; simp only [zF, zG])
   refine Zm ?_
   refine Zf ?_
   refine Zl ?_
   refine Zf ?_
   refine Zl ?_
   refine Zf ?_
   refine Zl ?_
   (refine q_callS 77 Tryz.func77 (hRp.out _ _ (by have hq := X.txns hxf hxl (fun r hr => List.mem_append_left _ hr); rw [hxs] at hq; exact hq)) ?_; rintro e w1 ⟨v1, rfl, ho1, hb1⟩; obtain ⟨a1, c1, rfl⟩ := ho1.form; replace X := X.addOwn hb1 ho1; clear hb1 ho1; refine Zce ?_; clear hL; intro hL)
   (refine q_callS 76 Tryz.func76 (hCk.out _ _ X.r0 (X.rd _ (List.Mem.tail _ (List.mem_append_right _ (List.mem_append_right _ hF)))).1) ?_; rintro e w1 ⟨v3, rfl, ho1, hb1⟩; obtain ⟨a3, c3, rfl⟩ := ho1.form; replace X := X.addOwn hb1 ho1; clear hb1 ho1; refine Zce ?_; clear hL; intro hL)
   refine Zm ?_
   refine Zx ?_
   refine Zx ?_
   refine Zn ?_
   refine Zf ?_
   (refine Zs ?_; clear hL X; intro w X hL)
   refine Za ?_
   refine q_nil ?_
   go_wp2_with (first
    | (refine ZhL ?_) | (refine ZhS ?_; clear X; intro w X) | (refine ZhA ?_; clear X; intro g w X))
   go_ret
   refine ⟨_, _, rfl, ⟨{ v with st := ⟨a3, c3⟩, ft := ⟨at1, ct1⟩ }, ds, xs, MD, MU, ⟨hm.out.dn, hm.out.us, hm.out.dmap, hxs, hm.out.dfit, hxf, hI.out, ⟨e5, ?_⟩⟩, rfl, rfl⟩, ?_⟩
   ·have := hck.out
    show ST.length <= 100
    omega
   ·exact (X.sub (List.sublist_cons_self _ _)).rds (jRds_sub (.tail _ (.tail _ (List.mem_append_right _ Zfl))) (.tail _ (.tail _ (List.mem_append_right _ Zfl))) (.tail _ (.tail _ (List.mem_append_right _ Zfl))) (.tail _ (.tail _ (List.mem_append_right _ Zfl))) (.tail _ (.tail _ (List.mem_append_right _ Zfl))) (.tail _ (.tail _ (List.mem_append_right _ Zfl))) (.tail _ (.tail _ (List.mem_append_right _ Zfl))) (.tail _ (.tail _ (List.mem_append_right _ Zfl))) (.head _) (.tail _ (.tail _ (.head _))) (fun r hr => .tail _ (.tail _ (List.mem_append_left _ (.tail _ hr)))) (fun r hr => .tail _ (.tail _ (List.mem_append_right _ (inD_in r hr)))) (fun r hr => .tail _ (.tail _ (List.mem_append_right _ (List.mem_append_right _ hr)))))
  ·have hJ : beginJ j = (j, 9) := by unfold beginJ; rw [if_pos (.inr hw)]
   rw [hJ]
   dsimp only
   have hw2 : (j.work != 0) = true := by simpa using hw
   clear hw hd
   go_enter Tryz.func36, Tryz.ntmps36
   go_wp2_with (first
    | (refine ZhL ?_) | (refine ZhS ?_; clear X; intro w X) | (refine ZhA ?_; clear X; intro g w X))
   go_ret
   exact ⟨_, _, rfl, ⟨v, ds, fs, MD, MU, hm, rfl, rfl⟩, X⟩
instance : SlT Tryz.prog 59 127 3 32 := ⟨Elem.mk' (z := .agg #[.int .i64 0, .int .i64 0, .string ⟨#[]⟩]) Tryz.underlying59 (by kernel_rfl) rfl, by decide, by decide, by decide⟩
instance : SlT Tryz.prog 34 92 2 24 := ⟨Elem.mk' (z := .agg #[.int .i64 0, .string ⟨#[]⟩]) Tryz.underlying34 (by kernel_rfl) rfl, by decide, by decide, by decide⟩
instance : SlT Tryz.prog 35 3 1 8 := ⟨Elem.mk' (z := .int .i64 0) Tryz.underlying35 (by kernel_rfl) rfl, by decide, by decide, by decide⟩
instance : SlT Tryz.prog 43 9 1 16 := ⟨Elem.mk' (z := .string ⟨#[]⟩) Tryz.underlying43 (by kernel_rfl) rfl, by decide, by decide, by decide⟩
instance : SlT Tryz.prog 100 140 2 16 := ⟨Elem.mk' (z := .agg #[.int .i64 0, .bool false]) Tryz.underlying100 (by kernel_rfl) rfl, by decide, by decide, by decide⟩
instance : SlT Tryz.prog 57 40 10 128 := ⟨Elem.mk' (z := .agg #[.int .i64 0, .slice none 0 0, .slice none 0 0, .slice none 0 0, .bool false, .int .i64 0, .bool false, .int .i64 0, .bool false, .int .i64 0]) Tryz.underlying57 (by kernel_rfl) rfl, by decide, by decide, by decide⟩
instance : OneT Tryz.prog 168 := ⟨⟨_, Tryz.underlying168, rfl⟩, by kernel_rfl⟩
instance : ZeroT Tryz.prog 168 [.nilFunc] := ⟨by kernel_rfl⟩
instance : OneT Tryz.prog 169 := ⟨⟨_, Tryz.underlying169, rfl⟩, by kernel_rfl⟩
instance : ZeroT Tryz.prog 169 [.nilFunc] := ⟨by kernel_rfl⟩
theorem jr_noC (c : Int) (w : World) :
    Calls Tryz.prog 79 #[.int .i64 c] w fun e w' => e = .returned (.agg #[.int .i64 c, .int .i64 0, .string ⟨#[]⟩]) /\ Below w.heap.size w w' := by
 have X : St [] w w [] [] := St.start [] w
 go_enter Tryz.func79, Tryz.ntmps79
 go_wp2_with (first
  | (refine ZyL ?_) | (refine ZyS ?_; clear X; intro w X) | (refine ZyA ?_; clear X; intro g w X))
 exact m_ret1 rfl (.tmp rfl rfl) X (.head _) rfl rfl ⟨rfl, X.below⟩
theorem jr_commit (K : JK) {S : List Nat} {w0 w : World} {L : List Ent} {R : List Rd} {gj : Nat} {j : Jn} {M : List Ent} {Rj : List Rd} (F : JF gj j M Rj) (X : St S w0 w (M ++ L) (Rj ++ R)) (hF : flR 0 ∈ R) (hd : j.down = false) :
    Calls Tryz.prog 38 #[.pointer (some ⟨gj, 0, none⟩)] w fun e w' => ∃ M' Rj', e = .returned (commitJ j).2.val /\ JF gj (commitJ j).1 M' Rj' /\ St S w0 w' (M' ++ L) (Rj' ++ R) := by
 obtain ⟨v, ds, fs, MD, MU, hm, rfl, rfl⟩ := F
 have hsz := hm.inv.sz hm.sz
 rw [List.cons_append] at X
 unfold jCells at X
 have hNo := fun c w => jr_noC c w
 have hOp := fun v w h => K.opn j.now v w h
 by_cases hw : j.work = 0
 ·have hw2 : (j.work != 0) = false := by simpa using hw
  have hwn : ¬ j.work ≠ 0 := not_not_intro hw
  clear hw
  cases ho : openB j.now with
  | true =>
   have hJ : commitJ j = (j, noR 9) := by unfold commitJ; rw [if_pos (.inr ho)]
   rw [hJ]
   rw [ho] at hOp
   clear ho hwn hJ
   replace hNo := hid hNo; replace hOp := hid hOp; replace hsz := hid hsz; replace hm := hid hm
   go_enter Tryz.func38, Tryz.ntmps38
   go_wp2_with (first
    | (refine ZyL ?_) | (refine ZyS ?_; clear X; intro w X) | (refine ZyA ?_; clear X; intro g w X)
    | (go_at_call 79; ((with_reducible refine (hNo.out _ _).mono ?_); rintro e w1 ⟨rfl, hb1⟩; replace X := X.call hb1; clear hb1))
    | (go_at_call 29; ((with_reducible refine (hOp.out _ _ (X.jNow hsz.out (fun r hr => List.mem_append_left _ hr))).mono ?_); rintro e w1 ⟨rfl, hb1⟩; replace X := X.call hb1; clear hb1)))
   exact m_ret1 rfl (.tmp rfl rfl) X (.tail _ (.head _)) rfl rfl ⟨_, _, rfl, ⟨v, ds, fs, MD, MU, hm.out, rfl, rfl⟩, X.sub (List.Sublist.cons _ (List.sublist_cons_self _ _))⟩
  | false =>
   have hl := hsz.now
   rw [ho] at hOp
   have hwo : ¬ (j.work ≠ 0 \/ openB j.now = true) := fun h => h.elim hwn (by rw [ho]; decide)
   clear hwn
   by_cases h0 : j.now.mt.length + j.now.dt.length + j.now.rev.length = 0
   ·have hJ : commitJ j = (j, noR 4) := by unfold commitJ; rw [if_neg hwo, if_pos h0]
    rw [hJ]
    have e1 : (((j.now.mt.length : Int) + (j.now.dt.length : Int) + (j.now.rev.length : Int)) == 0) = true := by simp; omega
    clear ho hwo hJ h0
    replace hNo := hid hNo; replace hOp := hid hOp; replace hsz := hid hsz; replace hm := hid hm
    go_enter Tryz.func38, Tryz.ntmps38
    go_wp2_with (first
          | (refine ZyL ?_) | (refine ZyS ?_; clear X; intro w X) | (refine ZyA ?_; clear X; intro g w X)
          | (go_at_call 79; ((with_reducible refine (hNo.out _ _).mono ?_); rintro e w1 ⟨rfl, hb1⟩; replace X := X.call hb1; clear hb1))
          | (go_at_call 29; ((with_reducible refine (hOp.out _ _ (X.jNow hsz.out (fun r hr => List.mem_append_left _ hr))).mono ?_); rintro e w1 ⟨rfl, hb1⟩; replace X := X.call hb1; clear hb1)))
    exact m_ret1 rfl (.tmp rfl rfl) X (.tail _ (.head _)) rfl rfl ⟨_, _, rfl, ⟨v, ds, fs, MD, MU, hm.out, rfl, rfl⟩, X.sub (List.Sublist.cons _ (List.sublist_cons_self _ _))⟩
   ·have e1 : (((j.now.mt.length : Int) + (j.now.dt.length : Int) + (j.now.rev.length : Int)) == 0) = false := beq_eq_false_iff_ne.2 (by omega)
    by_cases hq : 2147483646 <= j.now.seq
    ·have hJ : commitJ j = (j, noR 11) := by unfold commitJ; rw [if_neg hwo, if_neg h0, if_pos hq]
     rw [hJ]
     clear ho hwo hJ h0
     replace hNo := hid hNo; replace hOp := hid hOp; replace hsz := hid hsz; replace hm := hid hm
     go_enter Tryz.func38, Tryz.ntmps38
     go_wp2_with (first
         | (refine ZyL ?_) | (refine ZyS ?_; clear X; intro w X) | (refine ZyA ?_; clear X; intro g w X)
         | (go_at_call 79; ((with_reducible refine (hNo.out _ _).mono ?_); rintro e w1 ⟨rfl, hb1⟩; replace X := X.call hb1; clear hb1))
         | (go_at_call 29; ((with_reducible refine (hOp.out _ _ (X.jNow hsz.out (fun r hr => List.mem_append_left _ hr))).mono ?_); rintro e w1 ⟨rfl, hb1⟩; replace X := X.call hb1; clear hb1)))
     exact m_ret1 rfl (.tmp rfl rfl) X (.tail _ (.head _)) rfl rfl ⟨_, _, rfl, ⟨v, ds, fs, MD, MU, hm.out, rfl, rfl⟩, X.sub (List.Sublist.cons _ (List.sublist_cons_self _ _))⟩
    ·have hCm := fun v w h hF => K.com j.ring j.now v w h hF
     unfold Ring.val at hCm
     by_cases hc : comE j.ring j.now = 0
     ·have hJ : commitJ j = ({ j with used := j.used ++ [(comR j.ring j.now).used - j.ring.used], ring := comR j.ring j.now, sealed := j.now, steps := comL j.ring j.now, work := 1, now := txn0 (j.now.seq + 1) }, ⟨0, j.now.seq, ⟨#[]⟩⟩) := by unfold commitJ; rw [if_neg hwo, if_neg h0, if_neg hq, if_neg (not_not_intro hc)]
      have hI := inv_commit hd hm.inv
      rw [hJ] at hI ⊢
      dsimp only at hI ⊢
      rw [hc] at hCm
      have hcl := (com_ok hc).2
      obtain ⟨g1, g, g3, g4, g5, g6⟩ := comE_zero hc
      obtain ⟨u1, u2⟩ := comR_used hc
      have u3 := (goodR_iff _).1 u1
      have hwr : IntKind.i64.wrap ((comR j.ring j.now).used - j.ring.used) = (comR j.ring j.now).used - j.ring.used := IntWalk.i64_in _ (by omega)
      have hws : IntKind.i64.wrap (j.now.seq + 1) = j.now.seq + 1 := IntWalk.i64_in _ (by have := g.seq; omega)
      have hul := hsz.used
      clear ho hwo hJ h0 g1 g g3 g4 g5 g6 u1 u2 u3 hc
      generalize comR j.ring j.now = cr at *
      generalize comL j.ring j.now = ST at *
      replace hNo := hid hNo; replace hOp := hid hOp; replace hsz := hid hsz; replace hm := hid hm; replace hCm := hid hCm; replace hI := hid hI; replace hcl := hid hcl
      rw [List.append_assoc] at X
      go_enter Tryz.func38, Tryz.ntmps38
      go_upto_region 9 with (first
            | (refine ZyL ?_) | (refine ZyS ?_; clear X; intro w X) | (refine ZyA ?_; clear X; intro g w X)
            | (go_at_call 79; ((with_reducible refine (hNo.out _ _).mono ?_); rintro e w1 ⟨rfl, hb1⟩; replace X := X.call hb1; clear hb1))
            | (go_at_call 29; ((with_reducible refine (hOp.out _ _ (X.jNow hsz.out (fun r hr => List.mem_append_left _ hr))).mono ?_); rintro e w1 ⟨rfl, hb1⟩; replace X := X.call hb1; clear hb1)))
      (refine q_treeS 3 [] [5, 10, 11] [3, 4] (.fork [0, 1, 2, 3, 4] (.fin [5, 6, 7, 8, 9, 10, 11, 12, 13]) (.fin [10, 5, 6, 7, 8, 9, 11, 12, 13])) X ?_; clear X; intro hQ X hL; simp only [zF, zG] at hL; simp only [zF, zG])
      refine t_fork (fun _ => ?_) hQ
      refine Zm ?_
      refine Zn ?_
      refine Zf ?_
      refine Zl ?_
      refine Zl ?_
      refine t_two ?_ ?_
      ·refine t_fin ?_
       (refine q_callS 80 Tryz.func80 (hCm.out _ _ (X.jNow hsz.out (fun r hr => List.mem_append_left _ hr)) (X.rd _ (List.mem_append_right _ hF)).1) ?_; rintro e w1 ⟨v3, rfl, ho1, hb1⟩; obtain ⟨a3, c3, rfl⟩ := ho1.form; replace X := X.addOwn hb1 ho1; clear hb1 ho1; refine Zce ?_; clear hL; intro hL)
       refine Zm ?_
       refine Zx ?_
       refine Zx ?_
       refine Zx ?_
       (refine Zq ?_; clear hL X; intro g w X hL)
       (refine Zs ?_; clear hL X; intro w X hL)
       refine Za ?_
       refine Za ?_
       refine q_nil ?_
       go_upto_region 12 with (first
        | (refine ZyL ?_) | (refine ZyS ?_; clear X; intro w X) | (refine ZyA ?_; clear X; intro g w X))
       (refine q_startS 4 [17] [13, 14, 17] [4, 6, 11] [0, 1, 2, 3, 4, 5, 6, 7, 8, 9, 10, 11, 12, 13, 14, 15, 16, 17] X ?_; clear X; intro hQ X hL; simp only [zF, zG] at hL; simp only [zF, zG])
       refine Zm ?_
       refine Zm ?_
       refine Zn ?_
       refine Zf ?_
       refine Zl ?_
       refine Zf ?_
       refine Zl ?_
       refine Zm ?_
       refine Zn ?_
       refine Zf ?_
       refine Zf ?_
       refine Zl ?_
       refine Zg ?_
       (refine q_build1 rfl rfl Zev (by rfl) (by rfl) X hL rfl rfl ?_; intro g w X2 hL2; replace X := X2; replace hL := hL2; clear X2 hL2; (simp only [Act.put, zA, zB, zC, zD, zE, zF, zG, Nat.reduceAdd]))
       refine q_appO (_ :: _ :: _ :: _ :: MD) rfl rfl (cr.used - j.ring.used) intC_flat X hL hm.out.us Zev Zev rfl (by omega) Zsu rfl rfl ?_
       intro a5 c5 w5 MU5 hO5 X2 hL2
       replace X := X2
       replace hL := hL2
       clear X2 hL2
       simp only [List.cons_append] at X hL
       (simp only [Act.put, zA, zB, zC, zD, zE, zF, zG, Nat.reduceAdd])
       refine Zn ?_
       refine Zf ?_
       (refine Zb ?_; clear X; intro w X)
       refine q_nil ?_
       go_upto_region 13 with (first
        | (refine ZyL ?_) | (refine ZyS ?_; clear X; intro w X) | (refine ZyA ?_; clear X; intro g w X))
       (refine q_startS 2 [] [9, 12, 15, 18] [4, 5] [0, 1, 2, 3, 4, 5, 6, 7, 8, 9, 10, 11, 12, 13, 14, 15, 16, 17, 18] X ?_; clear X; intro hQ X hL; simp only [zF, zG] at hL; simp only [zF, zG])
       refine Zm ?_
       refine Zm ?_
       refine Zm ?_
       refine Zm ?_
       refine Zl ?_
       refine Zl ?_
       refine Zm ?_
       refine Zn ?_
       refine Zf ?_
       (refine Zs ?_; clear hL X; intro w X hL)
       refine Zn ?_
       refine Zf ?_
       (refine Zs ?_; clear hL X; intro w X hL)
       refine Zn ?_
       refine Zf ?_
       (refine Zs ?_; clear hL X; intro w X hL)
       refine Zn ?_
       refine Zf ?_
       (refine Zs ?_; clear hL X; intro w X hL)
       refine q_nil ?_
       go_wp2_with (first
        | (refine ZyL ?_) | (refine ZyS ?_; clear X; intro w X) | (refine ZyA ?_; clear X; intro g w X))
       have hul2 : (j.used ++ [cr.used - j.ring.used]).length = j.used.length + 1 := by simp
       rw [<- hul2] at hO5 X
       refine m_ret1 rfl (.tmp rfl rfl) X (.tail _ (.tail _ (.head _))) rfl rfl ⟨_, _, rfl, ⟨{ v with st := ⟨a3, c3⟩, us := ⟨a5, c5⟩, nm := nilAC, nd := nilAC, nr := nilAC, sm := v.nm, sd := v.nd, sr := v.nr }, ds, fs, MD, MU5, ⟨hm.out.dn, hO5, hm.out.dmap, hm.out.fmap, hm.out.dfit, hm.out.ffit, hI.out, ⟨hm.out.sz.1, hcl.out⟩⟩, rfl, rfl⟩, ?_⟩
       rw [List.cons_append, List.append_assoc]
       exact (X.addNil.sub (List.Sublist.cons _ (List.Sublist.cons _ (List.sublist_cons_self _ _)))).rds (jRds_sub Zfl Zfl Zfl Zfl Zfl Zfl Zfl Zfl Zfl Zfl (fun r hr => .tail _ (.tail _ (inF_in r hr))) (fun r hr => .tail _ (.tail _ (inD_in r hr))) (fun r hr => .tail _ (.tail _ (List.mem_append_right _ hr))))
      ·refine t_fin ?_
       (refine Zq ?_; clear hL X; intro g w X hL)
       (refine q_callS 80 Tryz.func80 (hCm.out _ _ (X.jNow hsz.out (fun r hr => List.mem_append_left _ hr)) (X.rd _ (List.mem_append_right _ hF)).1) ?_; rintro e w1 ⟨v3, rfl, ho1, hb1⟩; obtain ⟨a3, c3, rfl⟩ := ho1.form; replace X := X.addOwn hb1 ho1; clear hb1 ho1; refine Zce ?_; clear hL; intro hL)
       refine Zm ?_
       refine Zx ?_
       refine Zx ?_
       refine Zx ?_
       (refine Zs ?_; clear hL X; intro w X hL)
       refine Za ?_
       refine Za ?_
       refine q_nil ?_
       go_upto_region 12 with (first
        | (refine ZyL ?_) | (refine ZyS ?_; clear X; intro w X) | (refine ZyA ?_; clear X; intro g w X))
       (refine q_startS 4 [17] [13, 14, 17] [4, 6, 11] [0, 1, 2, 3, 4, 5, 6, 7, 8, 9, 10, 11, 12, 13, 14, 15, 16, 17] X ?_; clear X; intro hQ X hL; simp only [zF, zG] at hL; simp only [zF, zG])
       refine Zm ?_
       refine Zm ?_
       refine Zn ?_
       refine Zf ?_
       refine Zl ?_
       refine Zf ?_
       refine Zl ?_
       refine Zm ?_
       refine Zn ?_
       refine Zf ?_
       refine Zf ?_
       refine Zl ?_
       refine Zg ?_
       (refine q_build1 rfl rfl Zev (by rfl) (by rfl) X hL rfl rfl ?_; intro g w X2 hL2; replace X := X2; replace hL := hL2; clear X2 hL2; (simp only [Act.put, zA, zB, zC, zD, zE, zF, zG, Nat.reduceAdd]))
       refine q_appO (_ :: _ :: _ :: _ :: MD) rfl rfl (cr.used - j.ring.used) intC_flat X hL hm.out.us Zev Zev rfl (by omega) Zsu rfl rfl ?_
       intro a5 c5 w5 MU5 hO5 X2 hL2
       replace X := X2
       replace hL := hL2
       clear X2 hL2
       simp only [List.cons_append] at X hL
       (simp only [Act.put, zA, zB, zC, zD, zE, zF, zG, Nat.reduceAdd])
       refine Zn ?_
       refine Zf ?_
       (refine Zb ?_; clear X; intro w X)
       refine q_nil ?_
       go_upto_region 13 with (first
        | (refine ZyL ?_) | (refine ZyS ?_; clear X; intro w X) | (refine ZyA ?_; clear X; intro g w X))
       (refine q_startS 2 [] [9, 12, 15, 18] [4, 5] [0, 1, 2, 3, 4, 5, 6, 7, 8, 9, 10, 11, 12, 13, 14, 15, 16, 17, 18] X ?_; clear X; intro hQ X hL; simp only [zF, zG] at hL; simp only [zF, zG])
       refine Zm ?_
       refine Zm ?_
       refine Zm ?_
       refine Zm ?_
       refine Zl ?_
       refine Zl ?_
       refine Zm ?_
       refine Zn ?_
       refine Zf ?_
       (refine Zs ?_; clear hL X; intro w X hL)
       refine Zn ?_
       refine Zf ?_
       (refine Zs ?_; clear hL X; intro w X hL)
       refine Zn ?_
       refine Zf ?_
       (refine Zs ?_; clear hL X; intro w X hL)
       refine Zn ?_
       refine Zf ?_
       (refine Zs ?_; clear hL X; intro w X hL)
       refine q_nil ?_
       go_wp2_with (first
        | (refine ZyL ?_) | (refine ZyS ?_; clear X; intro w X) | (refine ZyA ?_; clear X; intro g w X))
       have hul2 : (j.used ++ [cr.used - j.ring.used]).length = j.used.length + 1 := by simp
       rw [<- hul2] at hO5 X
       refine m_ret1 rfl (.tmp rfl rfl) X (.tail _ (.tail _ (.head _))) rfl rfl ⟨_, _, rfl, ⟨{ v with st := ⟨a3, c3⟩, us := ⟨a5, c5⟩, nm := nilAC, nd := nilAC, nr := nilAC, sm := v.nm, sd := v.nd, sr := v.nr }, ds, fs, MD, MU5, ⟨hm.out.dn, hO5, hm.out.dmap, hm.out.fmap, hm.out.dfit, hm.out.ffit, hI.out, ⟨hm.out.sz.1, hcl.out⟩⟩, rfl, rfl⟩, ?_⟩
       rw [List.cons_append, List.append_assoc]
       exact (X.addNil.sub (List.Sublist.cons _ (List.Sublist.cons _ (List.sublist_cons_self _ _)))).rds (jRds_sub Zfl Zfl Zfl Zfl Zfl Zfl Zfl Zfl Zfl Zfl (fun r hr => .tail _ (.tail _ (inF_in r hr))) (fun r hr => .tail _ (.tail _ (inD_in r hr))) (fun r hr => .tail _ (.tail _ (List.mem_append_right _ hr))))
     ·have hJ : commitJ j = (j, noR (comE j.ring j.now)) := by unfold commitJ; rw [if_neg hwo, if_neg h0, if_neg hq, if_pos hc]
      rw [hJ]
      have hc2 : (comE j.ring j.now != 0) = true := by simpa using hc
      clear ho hwo hJ h0 hc
      generalize comR j.ring j.now = cr at *
      generalize comL j.ring j.now = ST at *
      generalize comE j.ring j.now = cE at *
      replace hNo := hid hNo; replace hOp := hid hOp; replace hsz := hid hsz; replace hm := hid hm; replace hCm := hid hCm
      go_enter Tryz.func38, Tryz.ntmps38
      go_upto_region 9 with (first
            | (refine ZyL ?_) | (refine ZyS ?_; clear X; intro w X) | (refine ZyA ?_; clear X; intro g w X)
            | (go_at_call 79; ((with_reducible refine (hNo.out _ _).mono ?_); rintro e w1 ⟨rfl, hb1⟩; replace X := X.call hb1; clear hb1))
            | (go_at_call 29; ((with_reducible refine (hOp.out _ _ (X.jNow hsz.out (fun r hr => List.mem_append_left _ hr))).mono ?_); rintro e w1 ⟨rfl, hb1⟩; replace X := X.call hb1; clear hb1)))
      (refine q_treeS 3 [] [5, 10, 11] [3, 4] (.fork [0, 1, 2, 3, 4] (.fin [5, 6, 7, 8, 9, 10, 11, 12, 13]) (.fin [10, 5, 6, 7, 8, 9, 11, 12, 13])) X ?_; clear X; intro hQ X hL; simp only [zF, zG] at hL; simp only [zF, zG])
      refine t_fork (fun _ => ?_) hQ
      refine Zm ?_
      refine Zn ?_
      refine Zf ?_
      refine Zl ?_
      refine Zl ?_
      refine t_two ?_ ?_
      ·refine t_fin ?_
       (refine q_callS 80 Tryz.func80 (hCm.out _ _ (X.jNow hsz.out (fun r hr => List.mem_append_left _ hr)) (X.rd _ (List.mem_append_right _ hF)).1) ?_; rintro e w1 ⟨v3, rfl, ho1, hb1⟩; obtain ⟨a3, c3, rfl⟩ := ho1.form; replace X := X.addOwn hb1 ho1; clear hb1 ho1; refine Zce ?_; clear hL; intro hL)
       refine Zm ?_
       refine Zx ?_
       refine Zx ?_
       refine Zx ?_
       (refine Zq ?_; clear hL X; intro g w X hL)
       (refine Zs ?_; clear hL X; intro w X hL)
       refine Za ?_
       refine Za ?_
       refine q_nil ?_
       go_wp2_with (first
        | (refine ZyL ?_) | (refine ZyS ?_; clear X; intro w X) | (refine ZyA ?_; clear X; intro g w X)
        | (go_at_call 79; ((with_reducible refine (hNo.out _ _).mono ?_); rintro e w1 ⟨rfl, hb1⟩; replace X := X.call hb1; clear hb1)))
       exact m_ret1 rfl (.tmp rfl rfl) X (.tail _ (.tail _ (.head _))) rfl rfl ⟨_, _, rfl, ⟨v, ds, fs, MD, MU, hm.out, rfl, rfl⟩, (X.sub (List.Sublist.cons _ (List.Sublist.cons _ (List.sublist_cons_self _ _)))).rds (fun r hr => .tail _ hr)⟩
      ·refine t_fin ?_
       (refine Zq ?_; clear hL X; intro g w X hL)
       (refine q_callS 80 Tryz.func80 (hCm.out _ _ (X.jNow hsz.out (fun r hr => List.mem_append_left _ hr)) (X.rd _ (List.mem_append_right _ hF)).1) ?_; rintro e w1 ⟨v3, rfl, ho1, hb1⟩; obtain ⟨a3, c3, rfl⟩ := ho1.form; replace X := X.addOwn hb1 ho1; clear hb1 ho1; refine Zce ?_; clear hL; intro hL)
       refine Zm ?_
       refine Zx ?_
       refine Zx ?_
       refine Zx ?_
       (refine Zs ?_; clear hL X; intro w X hL)
       refine Za ?_
       refine Za ?_
       refine q_nil ?_
       go_wp2_with (first
        | (refine ZyL ?_) | (refine ZyS ?_; clear X; intro w X) | (refine ZyA ?_; clear X; intro g w X)
        | (go_at_call 79; ((with_reducible refine (hNo.out _ _).mono ?_); rintro e w1 ⟨rfl, hb1⟩; replace X := X.call hb1; clear hb1)))
       exact m_ret1 rfl (.tmp rfl rfl) X (.tail _ (.tail _ (.head _))) rfl rfl ⟨_, _, rfl, ⟨v, ds, fs, MD, MU, hm.out, rfl, rfl⟩, (X.sub (List.Sublist.cons _ (List.Sublist.cons _ (List.sublist_cons_self _ _)))).rds (fun r hr => .tail _ hr)⟩
 ·have hJ : commitJ j = (j, noR 9) := by unfold commitJ; rw [if_pos (.inl hw)]
  rw [hJ]
  have hw2 : (j.work != 0) = true := by simpa using hw
  clear hw hJ
  replace hNo := hid hNo; replace hOp := hid hOp; replace hsz := hid hsz; replace hm := hid hm
  go_enter Tryz.func38, Tryz.ntmps38
  go_wp2_with (first
   | (refine ZyL ?_) | (refine ZyS ?_; clear X; intro w X) | (refine ZyA ?_; clear X; intro g w X)
   | (go_at_call 79; ((with_reducible refine (hNo.out _ _).mono ?_); rintro e w1 ⟨rfl, hb1⟩; replace X := X.call hb1; clear hb1)))
  exact m_ret1 rfl (.tmp rfl rfl) X (.tail _ (.head _)) rfl rfl ⟨_, _, rfl, ⟨v, ds, fs, MD, MU, hm.out, rfl, rfl⟩, X.sub (List.Sublist.cons _ (List.sublist_cons_self _ _))⟩
end Go.Proofs.YtjhmfljlclajnacGreatDoor
