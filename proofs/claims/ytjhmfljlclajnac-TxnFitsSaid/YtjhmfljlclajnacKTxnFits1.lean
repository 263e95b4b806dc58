/- Altering a transaction, plainly: lists that rise, a copy put among others, a block put among numbers. No program in sight. What Good's parts, Asked, Begin, Stop and may compute. No program in sight. What Change, Fill and Revoke compute, and that a transaction stays good. No program in sight. How many blocks a transaction asks for: what turns that number, and that the log has room. No program in sight. An altered transaction's lists are no longer than they may be. No program in sight. A text as a block. No program in sight. An order to a transaction: its cells, what it does. No program in sight. Orders as an argument. A store into an owned list. No program in sight. append in a region that draws its order. No program in sight. A call of a Go function as a step of a region that draws its order. No program in sight. Rows of elements of several cells: copy, clear, append onto nothing, insert. No program in sight. -/
import Derived.Test.YtjhmfljlclajnacKTxnFits0
import Derived.Deep.RegionLaw
import Derived.Lib.AppendZerosOnto
import Derived.Lib.Overlaps
import Derived.Lib.SliceRun
import Derived.Laws.IdiomCopy
namespace Wb
open Go Go.RowKit

/-! ### Lists that rise are told by what is in them -/
theorem pw_ext {α : Type} (key : α → Int) : ∀ (l m : List α), (l.map key).Pairwise (· < ·) → (m.map key).Pairwise (· < ·) → (∀ x, x ∈ l ↔ x ∈ m) → l = m
  | [], [], _, _, _ => rfl
  | [], y :: m, _, _, h => absurd ((h y).2 List.mem_cons_self) List.not_mem_nil
  | x :: l, [], _, _, h => absurd ((h x).1 List.mem_cons_self) List.not_mem_nil
  | x :: l, y :: m, hl, hm, h => by
    rw [List.map_cons, List.pairwise_cons] at hl hm
    have hx := (h x).1 List.mem_cons_self
    have hy := (h y).2 List.mem_cons_self
    have e : x = y := by
      rcases List.mem_cons.1 hx with e | e
      · exact e
      · rcases List.mem_cons.1 hy with e2 | e2
        · exact e2.symm
        · have a := hl.1 (key y) (List.mem_map_of_mem e2)
          have b := hm.1 (key x) (List.mem_map_of_mem e)
          omega
    subst e
    congr 1
    refine pw_ext key l m hl.2 hm.2 fun z => ⟨fun hz => ?_, fun hz => ?_⟩
    · rcases List.mem_cons.1 ((h z).1 (List.mem_cons_of_mem _ hz)) with e | e
      · subst e; have := hl.1 (key z) (List.mem_map_of_mem hz); omega
      · exact e
    · rcases List.mem_cons.1 ((h z).2 (List.mem_cons_of_mem _ hz)) with e | e
      · subst e; have := hm.1 (key z) (List.mem_map_of_mem hz); omega
      · exact e
theorem rise_pw (l : List Int) : rise l = true ↔ l.Pairwise (· < ·) ∧ ∀ x ∈ l, 0 ≤ x ∧ x < 12 := by
  constructor
  · intro h
    refine ⟨List.pairwise_iff_getElem.2 fun i j hi hj hij => (rise_get h hj).2.2 i hij, fun x hx => ?_⟩
    obtain ⟨k, hk, rfl⟩ := List.mem_iff_getElem.1 hx
    exact ⟨(rise_get h hk).1, (rise_get h hk).2.1⟩
  · rintro ⟨h1, h2⟩
    rw [rise_iff]
    intro k hk
    have e := h2 l[k] (List.getElem_mem hk)
    refine ⟨by simpa [List.getD_eq_getElem?_getD, hk] using e.1, by simpa [List.getD_eq_getElem?_getD, hk] using e.2, fun h0 => ?_⟩
    have := List.pairwise_iff_getElem.1 h1 (k - 1) k (by omega) hk (by omega)
    simpa [List.getD_eq_getElem?_getD, hk, show k - 1 < l.length by omega] using this
theorem copies_pw (l : List Cpy) : copiesB l = true ↔ (blks l).Pairwise (· < ·) ∧ ∀ c ∈ l, isBlk c.block = true ∧ c.text.size = 32 := by
  unfold copiesB
  rw [Bool.and_eq_true, rise_pw, List.all_eq_true]
  constructor
  · rintro ⟨⟨h1, h2⟩, h3⟩
    exact ⟨h1, fun c hc => ⟨decide_eq_true (h2 _ (List.mem_map_of_mem hc)), of_decide_eq_true (h3 c hc)⟩⟩
  · rintro ⟨h1, h2⟩
    refine ⟨⟨h1, fun x hx => ?_⟩, fun c hc => decide_eq_true (h2 c hc).2⟩
    obtain ⟨c, hc, rfl⟩ := List.mem_map.1 hx
    exact of_decide_eq_true (h2 c hc).1
theorem mem_getC : ∀ {l : List Cpy}, (blks l).Pairwise (· < ·) → ∀ c : Cpy, c ∈ l ↔ getC l c.block = some c.text
  | [], _, c => by simp [getC]
  | x :: l, h, c => by
    rw [blks, List.map_cons, List.pairwise_cons] at h
    have ih := mem_getC (l := l) h.2 c
    rw [List.mem_cons]
    by_cases e : x.block = c.block
    · have hg : getC (x :: l) c.block = some x.text := by simp [getC, e]
      rw [hg]
      constructor
      · rintro (rfl | hc)
        · rfl
        · have := h.1 c.block (List.mem_map_of_mem hc); omega
      · intro ht
        left
        obtain ⟨b, t⟩ := x; obtain ⟨b', t'⟩ := c
        simp only [Option.some.injEq] at ht
        simp only at e
        rw [e, ht]
    · have hg : getC (x :: l) c.block = getC l c.block := by
        unfold getC
        rw [List.find?_cons_of_neg (by simpa using e)]
      rw [hg, ← ih]
      constructor
      · rintro (rfl | hc)
        · exact absurd rfl e
        · exact hc
      · exact .inr
theorem getC_of_mem {l : List Cpy} (h : (blks l).Pairwise (· < ·)) {c : Cpy} (hc : c ∈ l) : getC l c.block = some c.text := (mem_getC h c).1 hc
theorem hasB_iff {l : List Cpy} {b : Int} : hasB l b = true ↔ ∃ c ∈ l, c.block = b := by simp [hasB]
theorem inI_iff {l : List Int} {b : Int} : inI l b = true ↔ b ∈ l := by simp [inI]
theorem inI_no {l : List Int} {b : Int} : inI l b = false ↔ b ∉ l := by rw [← inI_iff]; simp
/-- Two lists of good copies that have the same text of each block are the same. -/
theorem copies_ext {l m : List Cpy} (hl : copiesB l = true) (hm : copiesB m = true) (h : ∀ b, isBlk b = true → getC l b = getC m b) : l = m := by
  obtain ⟨h1, h2⟩ := (copies_pw l).1 hl
  obtain ⟨h3, h4⟩ := (copies_pw m).1 hm
  refine pw_ext Cpy.block l m h1 h3 fun c => ?_
  constructor
  · intro hc
    rw [mem_getC h3, ← h _ (h2 c hc).1, ← mem_getC h1]; exact hc
  · intro hc
    rw [mem_getC h1, h _ (h4 c hc).1, ← mem_getC h3]; exact hc
theorem viewN_pw (f : Int → Option ByteArray) (n : Nat) : (blks (viewN f n)).Pairwise (· < ·) := by
  induction n with
  | zero => exact List.Pairwise.nil
  | succ n ih =>
    rw [viewN_succ, blks, List.map_append]
    refine List.pairwise_append.2 ⟨ih, ?_, ?_⟩
    · cases f n <;> simp
    · intro a ha b hb
      obtain ⟨c, hc, rfl⟩ := List.mem_map.1 ha
      obtain ⟨d, hd, rfl⟩ := List.mem_map.1 hb
      obtain ⟨k, hk, he, _⟩ := viewN_mem.1 hc
      cases hf : f n with
      | none => rw [hf] at hd; simp at hd
      | some t => rw [hf] at hd; simp at hd; subst hd; simp only; omega
theorem viewL_copies {f : Int → Option ByteArray} (h : ∀ b t, isBlk b = true → f b = some t → t.size = 32) : copiesB (viewL f) = true := by
  rw [copies_pw]
  refine ⟨viewN_pw f 12, fun c hc => ?_⟩
  obtain ⟨k, hk, he, ht⟩ := viewN_mem.1 hc
  have hb : isBlk c.block = true := decide_eq_true (by omega)
  exact ⟨hb, h c.block c.text hb (by rw [he]; exact ht)⟩
theorem getC_blk {l : List Cpy} (h : copiesB l = true) {b : Int} {t : ByteArray} (hg : getC l b = some t) : isBlk b = true ∧ t.size = 32 := by
  obtain ⟨h1, h2⟩ := (copies_pw l).1 h
  have := (mem_getC h1 ⟨b, t⟩).2 hg
  exact h2 _ this
theorem view_self {l : List Cpy} (h : copiesB l = true) : viewL (getC l) = l := by
  refine copies_ext (viewL_copies fun b t _ ht => (getC_blk h ht).2) h fun b hb => ?_
  have := of_decide_eq_true hb
  exact getC_viewL this.1 this.2
theorem withL_is (l : List Cpy) (b : Int) (s : ByteArray) : withL l b s = viewL (fun x => if x = b then some s else getC l x) := by
  unfold withL withN viewL viewN
  congr 1
  funext k
  unfold withK
  by_cases e : (k : Int) = b
  · show (if (k : Int) = b then _ else _) = Option.map _ (if (k : Int) = b then _ else _)
    rw [if_pos e, if_pos e, ← e]; rfl
  · show (if (k : Int) = b then _ else _) = Option.map _ (if (k : Int) = b then _ else _)
    rw [if_neg e, if_neg e]

/-! ### A copy put among others -/
theorem pos_at {l : List Cpy} (b : Int) (h : rise (blks l) = true) : (∀ k (hk : k < l.length), k < posB l b → l[k].block < b) ∧ (∀ k (hk : k < l.length), posB l b ≤ k → b ≤ l[k].block) ∧ posB l b ≤ l.length := by
  have hr := rises h
  have hle : l.findIdx (fun c => !decide (c.block < b)) ≤ l.length := List.findIdx_le_length
  have h1 : ∀ k (hk : k < l.length), k < l.findIdx (fun c => !decide (c.block < b)) → l[k].block < b := fun k hk hlt => by
    have := List.not_of_lt_findIdx hlt
    simpa using this
  have h2 : ∀ k (hk : k < l.length), l.findIdx (fun c => !decide (c.block < b)) ≤ k → b ≤ l[k].block := fun k hk hge => by
    have hlt : l.findIdx (fun c => !decide (c.block < b)) < l.length := by omega
    have h3 := List.findIdx_getElem (w := hlt)
    have h4 : b ≤ l[l.findIdx (fun c => !decide (c.block < b))].block := by simpa using h3
    by_cases e : l.findIdx (fun c => !decide (c.block < b)) = k
    · simp only [e] at h4; exact h4
    · have := hr k hk _ (show l.findIdx (fun c => !decide (c.block < b)) < k by omega)
      omega
  rw [pos_of hle h1 h2]
  exact ⟨h1, h2, hle⟩
theorem has_at {l : List Cpy} {b : Int} (h : rise (blks l) = true) : hasB l b = true ↔ ∃ hk : posB l b < l.length, l[posB l b].block = b := by
  obtain ⟨h1, h2, _⟩ := pos_at b h
  exact has_of (rises h) h1 h2
/-- The copies with a block's, as the program lays them. -/
def putL (l : List Cpy) (b : Int) (s : ByteArray) : List Cpy := if hasB l b then l.set (posB l b) ⟨b, s⟩ else l.take (posB l b) ++ ⟨b, s⟩ :: l.drop (posB l b)
theorem copies_rise {l : List Cpy} (h : copiesB l = true) : rise (blks l) = true := by
  unfold copiesB at h; rw [Bool.and_eq_true] at h; exact h.1
/-- The blocks that a list with a block put into it rises through. -/
theorem put_pw {l : List Cpy} (b : Int) (s : ByteArray) (h : copiesB l = true) : (blks (putL l b s)).Pairwise (· < ·) := by
  have hr := copies_rise h
  obtain ⟨h1, h2, hle⟩ := pos_at b hr
  have hpw := ((copies_pw l).1 h).1
  unfold putL
  cases hb : hasB l b with
  | true =>
    rw [if_pos rfl]
    obtain ⟨hk, he⟩ := (has_at hr).1 hb
    have e : blks (l.set (posB l b) ⟨b, s⟩) = blks l := by
      unfold blks
      rw [List.map_set]
      apply List.ext_getElem (by simp)
      intro i h3 h4
      rw [List.getElem_set]
      split
      · rename_i e; subst e; simp [he]
      · rfl
    rw [e]; exact hpw
  | false =>
    rw [if_neg (by decide)]
    have hne : ∀ c ∈ l, c.block ≠ b := fun c hc e => by
      rw [hasB_iff.2 ⟨c, hc, e⟩] at hb; cases hb
    have hsplit : (blks (l.take (posB l b)) ++ blks (l.drop (posB l b))).Pairwise (· < ·) := by
      unfold blks; rw [← List.map_append, List.take_append_drop]; exact hpw
    obtain ⟨p1, p2, p3⟩ := List.pairwise_append.1 hsplit
    have q1 : ∀ x ∈ blks (l.take (posB l b)), x < b := fun x hx => by
      obtain ⟨c, hc, rfl⟩ := List.mem_map.1 hx
      obtain ⟨k, hk, rfl⟩ := List.mem_iff_getElem.1 hc
      rw [List.length_take] at hk
      rw [List.getElem_take]; exact h1 k (by omega) (by omega)
    have q2 : ∀ x ∈ blks (l.drop (posB l b)), b < x := fun x hx => by
      obtain ⟨c, hc, rfl⟩ := List.mem_map.1 hx
      have hn := hne c (List.mem_of_mem_drop hc)
      obtain ⟨k, hk, rfl⟩ := List.mem_iff_getElem.1 hc
      rw [List.length_drop] at hk
      rw [List.getElem_drop] at hn ⊢
      have := h2 (posB l b + k) (by omega) (by omega)
      omega
    unfold blks at *
    rw [List.map_append, List.map_cons]
    refine List.pairwise_append.2 ⟨p1, List.pairwise_cons.2 ⟨q2, p2⟩, fun x hx y hy => ?_⟩
    rcases List.mem_cons.1 hy with rfl | hy
    · exact q1 x hx
    · exact p3 x hx y hy
theorem put_mem {l : List Cpy} (b : Int) (s : ByteArray) (h : copiesB l = true) (c : Cpy) : c ∈ putL l b s ↔ c = ⟨b, s⟩ ∨ (c ∈ l ∧ c.block ≠ b) := by
  have hr := copies_rise h
  have hpw := ((copies_pw l).1 h).1
  unfold putL
  cases hb : hasB l b with
  | true =>
    rw [if_pos rfl]
    obtain ⟨hk, he⟩ := (has_at hr).1 hb
    have hrs := rises hr
    rw [List.mem_iff_getElem]
    constructor
    · rintro ⟨i, hi, rfl⟩
      rw [List.length_set] at hi
      rw [List.getElem_set]
      split
      · exact .inl rfl
      · rename_i hne
        refine .inr ⟨List.getElem_mem hi, fun e => hne ?_⟩
        rcases Nat.lt_trichotomy i (posB l b) with hlt | heq | hgt
        · have := hrs _ hk i hlt; omega
        · exact heq.symm
        · have := hrs i hi _ hgt; omega
    · rintro (rfl | ⟨hc, hne⟩)
      · exact ⟨posB l b, by simpa using hk, by simp⟩
      · obtain ⟨i, hi, rfl⟩ := List.mem_iff_getElem.1 hc
        refine ⟨i, by simpa using hi, ?_⟩
        rw [List.getElem_set, if_neg]
        intro e; subst e; exact hne he
  | false =>
    rw [if_neg (by decide)]
    have hne : ∀ c ∈ l, c.block ≠ b := fun c hc e => by
      rw [hasB_iff.2 ⟨c, hc, e⟩] at hb; cases hb
    have hl : c ∈ l ↔ c ∈ l.take (posB l b) ∨ c ∈ l.drop (posB l b) := by
      rw [← List.mem_append, List.take_append_drop]
    rw [List.mem_append, List.mem_cons, hl]
    constructor
    · rintro (hc | rfl | hc)
      · exact .inr ⟨.inl hc, hne c (List.mem_of_mem_take hc)⟩
      · exact .inl rfl
      · exact .inr ⟨.inr hc, hne c (List.mem_of_mem_drop hc)⟩
    · rintro (rfl | ⟨hc | hc, _⟩)
      · exact .inr (.inl rfl)
      · exact .inl hc
      · exact .inr (.inr hc)
theorem put_copies {l : List Cpy} {b : Int} {s : ByteArray} (h : copiesB l = true) (hb : isBlk b = true) (hs : s.size = 32) : copiesB (putL l b s) = true := by
  rw [copies_pw]
  refine ⟨put_pw b s h, fun c hc => ?_⟩
  rcases (put_mem b s h c).1 hc with rfl | ⟨hc, _⟩
  · exact ⟨hb, hs⟩
  · exact ((copies_pw l).1 h).2 c hc
theorem put_get {l : List Cpy} (b : Int) (s : ByteArray) (h : copiesB l = true) (x : Int) : getC (putL l b s) x = if x = b then some s else getC l x := by
  have hp := put_pw b s h
  have hpw := ((copies_pw l).1 h).1
  have hm := mem_getC hp
  by_cases e : x = b
  · subst e
    rw [if_pos rfl]
    exact (hm ⟨x, s⟩).1 ((put_mem x s h _).2 (.inl rfl))
  · rw [if_neg e]
    cases hg : getC l x with
    | some t =>
      exact (hm ⟨x, t⟩).1 ((put_mem b s h _).2 (.inr ⟨(mem_getC hpw ⟨x, t⟩).2 hg, e⟩))
    | none =>
      cases hg2 : getC (putL l b s) x with
      | none => rfl
      | some t =>
        rcases (put_mem b s h _).1 ((hm ⟨x, t⟩).2 hg2) with e2 | ⟨hc, _⟩
        · exact absurd (congrArg Cpy.block e2) e
        · rw [(mem_getC hpw ⟨x, t⟩).1 hc] at hg; cases hg
theorem put_with {l : List Cpy} {b : Int} {s : ByteArray} (h : copiesB l = true) (hb : isBlk b = true) (hs : s.size = 32) : putL l b s = withL l b s := by
  rw [withL_is, ← view_self (put_copies h hb hs)]
  exact viewL_congr fun k _ => put_get b s h k
theorem put_len {l : List Cpy} (b : Int) (s : ByteArray) (h : copiesB l = true) : (putL l b s).length = l.length + (if hasB l b then 0 else 1) := by
  have := (pos_at b (copies_rise h)).2.2
  unfold putL
  cases hasB l b
  · simp; omega
  · simp
theorem put_has {l : List Cpy} (b : Int) (s : ByteArray) (h : copiesB l = true) (x : Int) : hasB (putL l b s) x = (decide (x = b) || hasB l x) := by
  rw [hasB_get, hasB_get, put_get b s h]
  by_cases e : x = b
  · simp [e]
  · simp [e]

/-! ### A copy dropped -/
theorem drop_copies {l : List Cpy} (b : Int) (h : copiesB l = true) : copiesB (dropC l b) = true := by
  obtain ⟨h1, h2⟩ := (copies_pw l).1 h
  rw [copies_pw]
  unfold dropC
  refine ⟨?_, fun c hc => h2 c (List.mem_filter.1 hc).1⟩
  exact h1.sublist (List.Sublist.map _ List.filter_sublist)
theorem drop_has (l : List Cpy) (b x : Int) : hasB (dropC l b) x = (hasB l x && decide (x ≠ b)) := by
  rw [Bool.eq_iff_iff, Bool.and_eq_true, hasB_iff, hasB_iff, decide_eq_true_eq]
  unfold dropC
  constructor
  · rintro ⟨c, hc, rfl⟩
    rw [List.mem_filter] at hc
    exact ⟨⟨c, hc.1, rfl⟩, by simpa using hc.2⟩
  · rintro ⟨⟨c, hc, rfl⟩, hne⟩
    exact ⟨c, List.mem_filter.2 ⟨hc, by simpa using hne⟩, rfl⟩
theorem drop_get (l : List Cpy) (b x : Int) : getC (dropC l b) x = if x = b then none else getC l x := by
  by_cases e : x = b
  · rw [if_pos e]
    refine getC_none ?_
    rw [drop_has]; simp [e]
  · rw [if_neg e]
    unfold getC dropC
    rw [List.find?_filter]
    congr 1
    congr 1
    funext c
    by_cases e2 : c.block = x
    · subst e2; simp [e]
    · simp [e2]

/-! ### A number put among others -/
def posI (l : List Int) (b : Int) : Nat := (l.filter (fun x => decide (x < b))).length
def insI (l : List Int) (b : Int) : List Int := l.take (posI l b) ++ b :: l.drop (posI l b)
/-- Of the blocks 0 to n - 1: b itself if 'two', and those other ones that are in l. -/
def revK (two : Bool) (l : List Int) (b : Int) (n : Nat) : List Int := ((List.range n).map fun (k : Nat) => (k : Int)).filter (fun k => (k == b && two) || (k != b && inI l k))
theorem revK_pw (two : Bool) (l : List Int) (b : Int) (n : Nat) : (revK two l b n).Pairwise (· < ·) := by
  unfold revK
  refine List.Pairwise.filter _ ?_
  rw [List.pairwise_map]
  exact List.pairwise_lt_range.imp fun h => by omega
theorem revK_mem (two : Bool) (l : List Int) (b x : Int) (n : Nat) : x ∈ revK two l b n ↔ (0 ≤ x ∧ x < n) ∧ ((x = b ∧ two = true) ∨ (x ≠ b ∧ x ∈ l)) := by
  unfold revK
  rw [List.mem_filter]
  simp only [List.mem_map, List.mem_range, Bool.or_eq_true, Bool.and_eq_true, beq_iff_eq, bne_iff_ne, inI_iff]
  constructor
  · rintro ⟨⟨k, hk, rfl⟩, h⟩
    exact ⟨by omega, h⟩
  · rintro ⟨⟨h0, h1⟩, h⟩
    exact ⟨⟨x.toNat, by omega, by omega⟩, h⟩
theorem revK_succ (two : Bool) (l : List Int) (b : Int) (n : Nat) : revK two l b (n + 1) = revK two l b n ++ (if ((n : Int) == b && two) || ((n : Int) != b && inI l n) then [(n : Int)] else []) := by
  unfold revK
  rw [List.range_succ, List.map_append, List.filter_append]
  congr 1
  rw [List.map_singleton, List.filter_cons, List.filter_nil]
theorem revK_len (two : Bool) (l : List Int) (b : Int) (n : Nat) : (revK two l b n).length ≤ n := by
  unfold revK
  exact Nat.le_trans (List.length_filter_le _ _) (by simp)
theorem posI_at {l : List Int} (b : Int) (h : l.Pairwise (· < ·)) : l.take (posI l b) = l.filter (fun x => decide (x < b)) ∧ l.drop (posI l b) = l.filter (fun x => !decide (x < b)) := by
  induction l with
  | nil => exact ⟨rfl, rfl⟩
  | cons x l ih =>
    rw [List.pairwise_cons] at h
    obtain ⟨i1, i2⟩ := ih h.2
    by_cases e : x < b
    · have hp : posI (x :: l) b = posI l b + 1 := by simp [posI, e]
      rw [hp, List.take_succ_cons, List.drop_succ_cons, i1, i2]
      simp [e]
    · have hf : l.filter (fun x => decide (x < b)) = [] := List.filter_eq_nil_iff.2 fun y hy => by
        have := h.1 y hy; simp; omega
      have hp : posI (x :: l) b = 0 := by simp [posI, e, hf]
      rw [hp]
      have hg : l.filter (fun x => !decide (x < b)) = l := List.filter_eq_self.2 fun y hy => by
        have := h.1 y hy; simp; omega
      simp [e, hf, hg]
theorem posI_le (l : List Int) (b : Int) : posI l b ≤ l.length := List.length_filter_le _ _
theorem ins_mem (l : List Int) (b x : Int) : x ∈ insI l b ↔ x = b ∨ x ∈ l := by
  unfold insI
  rw [List.mem_append, List.mem_cons]
  have : x ∈ l ↔ x ∈ l.take (posI l b) ∨ x ∈ l.drop (posI l b) := by rw [← List.mem_append, List.take_append_drop]
  rw [this]
  constructor
  · rintro (h | h | h) <;> simp [h]
  · rintro (h | h | h) <;> simp [h]
theorem ins_pw {l : List Int} {b : Int} (h : l.Pairwise (· < ·)) (hn : b ∉ l) : (insI l b).Pairwise (· < ·) := by
  obtain ⟨h1, h2⟩ := posI_at b h
  unfold insI
  rw [h1, h2]
  refine List.pairwise_append.2 ⟨h.filter _, List.pairwise_cons.2 ⟨fun y hy => ?_, h.filter _⟩, fun x hx y hy => ?_⟩
  · obtain ⟨hy, hy2⟩ := List.mem_filter.1 hy
    have : y ≠ b := fun e => hn (e ▸ hy)
    simp at hy2; omega
  · obtain ⟨_, hx2⟩ := List.mem_filter.1 hx
    rcases List.mem_cons.1 hy with rfl | hy
    · simpa using hx2
    · obtain ⟨_, hy2⟩ := List.mem_filter.1 hy
      simp at hx2 hy2; omega
theorem ins_rise {l : List Int} {b : Int} (h : rise l = true) (hb : isBlk b = true) (hn : inI l b = false) : rise (insI l b) = true := by
  obtain ⟨h1, h2⟩ := (rise_pw l).1 h
  rw [rise_pw]
  refine ⟨ins_pw h1 (inI_no.1 hn), fun x hx => ?_⟩
  rcases (ins_mem l b x).1 hx with rfl | hx
  · exact of_decide_eq_true hb
  · exact h2 x hx
theorem ins_is {l : List Int} {b : Int} (h : rise l = true) (hb : isBlk b = true) (hn : inI l b = false) : insI l b = revK true l b 12 := by
  obtain ⟨h1, h2⟩ := (rise_pw l).1 h
  have hb := of_decide_eq_true hb
  refine pw_ext id _ _ (by simpa using ins_pw h1 (inI_no.1 hn)) (by simpa using revK_pw true l b 12) fun x => ?_
  rw [ins_mem, revK_mem]
  constructor
  · rintro (rfl | hx)
    · exact ⟨by omega, .inl ⟨rfl, rfl⟩⟩
    · exact ⟨h2 x hx, .inr ⟨fun e => inI_no.1 hn (e ▸ hx), hx⟩⟩
  · rintro ⟨_, ⟨rfl, _⟩ | ⟨_, hx⟩⟩
    · exact .inl rfl
    · exact .inr hx
theorem ins_len (l : List Int) (b : Int) : (insI l b).length = l.length + 1 := by
  have := posI_le l b
  unfold insI; simp; omega
def offI (l : List Int) (b : Int) : List Int := l.filter (fun x => !decide (x = b))
theorem off_mem (l : List Int) (b x : Int) : x ∈ offI l b ↔ x ∈ l ∧ x ≠ b := by simp [offI, List.mem_filter]
theorem off_rise {l : List Int} (b : Int) (h : rise l = true) : rise (offI l b) = true := by
  obtain ⟨h1, h2⟩ := (rise_pw l).1 h
  rw [rise_pw]
  exact ⟨h1.filter _, fun x hx => h2 x ((off_mem l b x).1 hx).1⟩
theorem off_is {l : List Int} (b : Int) (h : rise l = true) : offI l b = revK false l b 12 := by
  obtain ⟨h1, h2⟩ := (rise_pw l).1 h
  refine pw_ext id _ _ (by rw [List.map_id]; exact h1.filter _) (by simpa using revK_pw false l b 12) fun x => ?_
  rw [off_mem, revK_mem]
  constructor
  · rintro ⟨hx, hne⟩; exact ⟨h2 x hx, .inr ⟨hne, hx⟩⟩
  · rintro ⟨_, ⟨_, hf⟩ | ⟨hne, hx⟩⟩
    · cases hf
    · exact ⟨hx, hne⟩
theorem off_len {l : List Int} (b : Int) (h : rise l = true) : (offI l b).length + (if inI l b then 1 else 0) = l.length := by
  have h1 := ((rise_pw l).1 h).1
  clear h
  induction l with
  | nil => rfl
  | cons x l ih =>
    rw [List.pairwise_cons] at h1
    have := ih h1.2
    by_cases e : x = b
    · have hn : inI l b = false := inI_no.2 fun hb => by have := h1.1 b hb; omega
      rw [hn] at this
      have hi : inI (x :: l) b = true := inI_iff.2 (by simp [e])
      rw [hi]
      simp [offI, e] at this ⊢
      exact this
    · have hi : inI (x :: l) b = inI l b := by
        unfold inI; rw [List.any_cons]; simp [e]
      rw [hi]
      simp [offI, e] at this ⊢
      omega
theorem off_in (l : List Int) (b x : Int) : inI (offI l b) x = (inI l x && decide (x ≠ b)) := by
  rw [Bool.eq_iff_iff, Bool.and_eq_true, inI_iff, inI_iff, off_mem, decide_eq_true_eq]
theorem ins_in (l : List Int) (b x : Int) : inI (insI l b) x = (decide (x = b) || inI l x) := by
  rw [Bool.eq_iff_iff, Bool.or_eq_true, inI_iff, inI_iff, ins_mem, decide_eq_true_eq]
end Wb

namespace Wb
open Go Go.RowKit
def askedI (t : Txn) : Int := IntKind.i64.wrap (IntKind.i64.wrap (IntKind.i64.wrap (((t.mt.length + t.rev.length : Nat) : Int) + t.h0.left) + t.h1.left) + t.h2.left)
def openB (t : Txn) : Bool := t.h0.on || t.h1.on || t.h2.on
def isHnd (h : Int) : Bool := decide (0 ≤ h ∧ h < 3)
theorem notGood' {t : Txn} (h : seqOk t.seq = false ∨ copiesB t.mt = false ∨ copiesB t.dt = false ∨ rise t.rev = false ∨ apart t = false ∨ hOk t.h0 = false ∨ hOk t.h1 = false ∨ hOk t.h2 = false) : goodT t = false := by
  cases hg : goodT t
  · rfl
  · obtain ⟨h1, h2, h3, h4, h5, h6, h7, h8⟩ := (goodT_iff t).1 hg
    rw [h1, h2, h3, h4, h5, h6, h7, h8] at h
    simp at h
theorem hOk_iff' (h : Hnd) : hOk h = true ↔ 0 ≤ h.left ∧ h.left ≤ 24 ∧ (h.on = true ∨ h.left = 0) := by
  unfold hOk; simp [and_assoc]
def getH (t : Txn) (h : Int) : Hnd := if h = 0 then t.h0 else if h = 1 then t.h1 else t.h2
def setH (t : Txn) (h : Int) (x : Hnd) : Txn := if h = 0 then { t with h0 := x } else if h = 1 then { t with h1 := x } else { t with h2 := x }
def stopE (t : Txn) (h : Int) : Int := if goodT t = false then 2 else if ¬ (0 ≤ h ∧ h ≤ 2) ∨ (getH t h).on = false then 4 else 0
def stopT (t : Txn) (h : Int) : Txn := if stopE t h = 0 then setH t h hnd0 else t
theorem stop_bad {t : Txn} {h : Int} (hg : goodT t = false) : stopE t h = 2 ∧ stopT t h = t := by
  have e : stopE t h = 2 := by unfold stopE; rw [if_pos hg]
  exact ⟨e, by unfold stopT; rw [e, if_neg (by decide)]⟩
theorem stop_none {t : Txn} {h : Int} (hg : goodT t = true) (hn : ¬ (0 ≤ h ∧ h ≤ 2) ∨ (getH t h).on = false) : stopE t h = 4 ∧ stopT t h = t := by
  have e : stopE t h = 4 := by unfold stopE; rw [if_neg (by rw [hg]; decide), if_pos hn]
  exact ⟨e, by unfold stopT; rw [e, if_neg (by decide)]⟩
theorem stop_ok {t : Txn} {h : Int} (hg : goodT t = true) (hh : 0 ≤ h ∧ h ≤ 2) (hn : (getH t h).on = true) : stopE t h = 0 ∧ stopT t h = setH t h hnd0 := by
  have e : stopE t h = 0 := by unfold stopE; rw [if_neg (by rw [hg]; decide), if_neg (by rintro (h1 | h1); exact h1 hh; rw [hn] at h1; cases h1)]
  exact ⟨e, by unfold stopT; rw [if_pos e]⟩
def begE (t : Txn) (h n free : Int) : Int := if goodT t = false then 2 else if ¬ (0 ≤ h ∧ h ≤ 2) then 4 else if (getH t h).on = true then 5 else if n < 0 ∨ 12 < n then 2 else if 24 < askedI t + n ∨ free < mostN (askedI t + n) then 6 else 0
def begT (t : Txn) (h n free : Int) : Txn := if begE t h n free = 0 then setH t h ⟨true, n⟩ else t
theorem begT_not {t : Txn} {h n free : Int} {k : Int} (hk : k ≠ 0) (e : begE t h n free = k) : begE t h n free = k ∧ begT t h n free = t := ⟨e, by unfold begT; rw [e, if_neg hk]⟩
theorem beg_bad {t : Txn} {h n free : Int} (hg : goodT t = false) : begE t h n free = 2 ∧ begT t h n free = t :=
  begT_not (by decide) (by unfold begE; rw [if_pos hg])
theorem beg_none {t : Txn} {h n free : Int} (hg : goodT t = true) (hn : ¬ (0 ≤ h ∧ h ≤ 2)) : begE t h n free = 4 ∧ begT t h n free = t :=
  begT_not (by decide) (by unfold begE; rw [if_neg (by rw [hg]; decide), if_pos hn])
theorem beg_on {t : Txn} {h n free : Int} (hg : goodT t = true) (hh : 0 ≤ h ∧ h ≤ 2) (ho : (getH t h).on = true) : begE t h n free = 5 ∧ begT t h n free = t :=
  begT_not (by decide) (by unfold begE; rw [if_neg (by rw [hg]; decide), if_neg (fun x => x hh), if_pos ho])
theorem beg_far {t : Txn} {h n free : Int} (hg : goodT t = true) (hh : 0 ≤ h ∧ h ≤ 2) (ho : (getH t h).on = false) (hn : n < 0 ∨ 12 < n) : begE t h n free = 2 ∧ begT t h n free = t :=
  begT_not (by decide) (by unfold begE; rw [if_neg (by rw [hg]; decide), if_neg (fun x => x hh), if_neg (by rw [ho]; decide), if_pos hn])
theorem beg_full {t : Txn} {h n free : Int} (hg : goodT t = true) (hh : 0 ≤ h ∧ h ≤ 2) (ho : (getH t h).on = false) (hn : ¬ (n < 0 ∨ 12 < n)) (hf : 24 < askedI t + n ∨ free < mostN (askedI t + n)) : begE t h n free = 6 ∧ begT t h n free = t :=
  begT_not (by decide) (by unfold begE; rw [if_neg (by rw [hg]; decide), if_neg (fun x => x hh), if_neg (by rw [ho]; decide), if_neg hn, if_pos hf])
theorem beg_ok {t : Txn} {h n free : Int} (hg : goodT t = true) (hh : 0 ≤ h ∧ h ≤ 2) (ho : (getH t h).on = false) (hn : ¬ (n < 0 ∨ 12 < n)) (hf : ¬ (24 < askedI t + n ∨ free < mostN (askedI t + n))) : begE t h n free = 0 ∧ begT t h n free = setH t h ⟨true, n⟩ := by
  have e : begE t h n free = 0 := by unfold begE; rw [if_neg (by rw [hg]; decide), if_neg (fun x => x hh), if_neg (by rw [ho]; decide), if_neg hn, if_neg hf]
  exact ⟨e, by unfold begT; rw [if_pos e]⟩
theorem hnd_of_good {t : Txn} (h : goodT t = true) : (0 ≤ t.h0.left ∧ t.h0.left ≤ 24) ∧ (0 ≤ t.h1.left ∧ t.h1.left ≤ 24) ∧ (0 ≤ t.h2.left ∧ t.h2.left ≤ 24) := by
  have no : ∀ {x : Bool}, x ≠ false → x = true := fun {x} hx => by cases x; exact absurd rfl hx; rfl
  have a0 := (hOk_iff' _).1 (no fun hf => by rw [notGood' (.inr (.inr (.inr (.inr (.inr (.inl hf))))))] at h; cases h)
  have a1 := (hOk_iff' _).1 (no fun hf => by rw [notGood' (.inr (.inr (.inr (.inr (.inr (.inr (.inl hf)))))))] at h; cases h)
  have a2 := (hOk_iff' _).1 (no fun hf => by rw [notGood' (.inr (.inr (.inr (.inr (.inr (.inr (.inr hf)))))))] at h; cases h)
  exact ⟨⟨a0.1, a0.2.1⟩, ⟨a1.1, a1.2.1⟩, a2.1, a2.2.1⟩
theorem asked_sum {t : Txn} (h : goodT t = true) (h1 : t.mt.length ≤ 5864062014805) (h2 : t.rev.length ≤ 17592186044160) : askedI t = (t.mt.length : Int) + t.rev.length + t.h0.left + t.h1.left + t.h2.left := by
  obtain ⟨⟨a0, a0'⟩, ⟨a1, a1'⟩, a2, a2'⟩ := hnd_of_good h
  unfold askedI
  rw [IntWalk.i64_in (((t.mt.length + t.rev.length : Nat) : Int) + t.h0.left) (by omega), IntWalk.i64_in (((t.mt.length + t.rev.length : Nat) : Int) + t.h0.left + t.h1.left) (by omega), IntWalk.i64_in _ (by omega)]
  omega
theorem asked_low {t : Txn} (h : goodT t = true) (h1 : t.mt.length ≤ 5864062014805) (h2 : t.rev.length ≤ 17592186044160) : 0 ≤ askedI t ∧ askedI t ≤ 30000000000000 := by
  obtain ⟨⟨a0, a0'⟩, ⟨a1, a1'⟩, a2, a2'⟩ := hnd_of_good h
  rw [asked_sum h h1 h2]
  omega
def mayE (t : Txn) (h b : Int) : Int := if goodT t = false then 2 else if ¬ (0 ≤ h ∧ h ≤ 2) ∨ (getH t h).on = false ∨ isBlk b = false then 4 else 0
theorem may_bad {t : Txn} {h b : Int} (hg : goodT t = false) : mayE t h b = 2 := by unfold mayE; rw [if_pos hg]
theorem may_none {t : Txn} {h b : Int} (hg : goodT t = true) (hn : ¬ (0 ≤ h ∧ h ≤ 2) ∨ (getH t h).on = false ∨ isBlk b = false) : mayE t h b = 4 := by unfold mayE; rw [if_neg (by rw [hg]; decide), if_pos hn]
theorem may_ok {t : Txn} {h b : Int} (hg : goodT t = true) (hh : 0 ≤ h ∧ h ≤ 2) (ho : (getH t h).on = true) (hb : isBlk b = true) : mayE t h b = 0 := by
  unfold mayE; rw [if_neg (by rw [hg]; decide), if_neg]
  rintro (h1 | h1 | h1)
  · exact h1 hh
  · rw [ho] at h1; cases h1
  · rw [hb] at h1; cases h1
end Wb

namespace Wb
open Go Go.RowKit

theorem ne32 {s : ByteArray} (h : ((s.size : Int) != 32) = false) : s.size = 32 := by
  have : (s.size : Int) = 32 := by simpa using h
  omega
theorem ne32' {s : ByteArray} (h : ((s.size : Int) != 32) = true) : ¬ s.size = 32 := fun e => by rw [e] at h; cases h
/-! ### What they compute -/
/-- A block that is named newly is owed for. -/
def owed (t : Txn) (b : Int) : Bool := !(hasB t.mt b || inI t.rev b)
def payE (t : Txn) (h b : Int) : Int := if owed t b = true ∧ (getH t h).left = 0 then 7 else 0
def payT (t : Txn) (h b : Int) : Txn := if owed t b = true then setH t h ⟨(getH t h).on, (getH t h).left - 1⟩ else t
def chgE (t : Txn) (h b : Int) (s : ByteArray) : Int := if mayE t h b ≠ 0 then mayE t h b else if s.size ≠ 32 then 1 else if hasB t.dt b = true then 8 else payE t h b
def chgT (t : Txn) (h b : Int) (s : ByteArray) : Txn := if chgE t h b s = 0 then { payT t h b with mt := putL t.mt b s, rev := offI t.rev b } else t
def filE (t : Txn) (h b : Int) (s : ByteArray) : Int := if mayE t h b ≠ 0 then mayE t h b else if s.size ≠ 32 then 1 else if owed t b = false then 8 else 0
def filT (t : Txn) (h b : Int) (s : ByteArray) : Txn := if filE t h b s = 0 then { t with dt := putL t.dt b s } else t
def rvkE (t : Txn) (h b : Int) : Int := if mayE t h b ≠ 0 then mayE t h b else if inI t.rev b = true then 5 else payE t h b
def rvkT (t : Txn) (h b : Int) : Txn := if rvkE t h b = 0 then { payT t h b with mt := dropC t.mt b, dt := dropC t.dt b, rev := insI t.rev b } else t

theorem setH_same (t : Txn) (h : Int) (x : Hnd) : (setH t h x).seq = t.seq ∧ (setH t h x).mt = t.mt ∧ (setH t h x).dt = t.dt ∧ (setH t h x).rev = t.rev := by
  unfold setH; split
  · exact ⟨rfl, rfl, rfl, rfl⟩
  · split <;> exact ⟨rfl, rfl, rfl, rfl⟩
theorem payT_same (t : Txn) (h b : Int) : (payT t h b).seq = t.seq ∧ (payT t h b).mt = t.mt ∧ (payT t h b).dt = t.dt ∧ (payT t h b).rev = t.rev := by
  unfold payT; split
  · exact setH_same _ _ _
  · exact ⟨rfl, rfl, rfl, rfl⟩

/-- What pay leaves. -/
def payU (t : Txn) (h b : Int) : Txn := if payE t h b = 0 then payT t h b else t
theorem payU_zero {t : Txn} {h b : Int} (e : payE t h b = 0) : payU t h b = payT t h b := if_pos e
theorem payU_same (t : Txn) (h b : Int) : (payU t h b).seq = t.seq ∧ (payU t h b).mt = t.mt ∧ (payU t h b).dt = t.dt ∧ (payU t h b).rev = t.rev := by
  unfold payU; split
  · exact payT_same _ _ _
  · exact ⟨rfl, rfl, rfl, rfl⟩
theorem chg_may {t : Txn} {h b : Int} {s : ByteArray} (hm : ¬ mayE t h b = 0) : chgE t h b s = mayE t h b ∧ chgT t h b s = t := by
  have e : chgE t h b s = mayE t h b := by unfold chgE; rw [if_pos hm]
  exact ⟨e, by unfold chgT; rw [e, if_neg hm]⟩
theorem chg_form {t : Txn} {h b : Int} {s : ByteArray} (hm : mayE t h b = 0) (hs : ¬ s.size = 32) : chgE t h b s = 1 ∧ chgT t h b s = t := by
  have e : chgE t h b s = 1 := by unfold chgE; rw [if_neg (by simp [hm]), if_pos hs]
  exact ⟨e, by unfold chgT; rw [e, if_neg (by decide)]⟩
theorem chg_role {t : Txn} {h b : Int} {s : ByteArray} (hm : mayE t h b = 0) (hs : s.size = 32) (hd : hasB t.dt b = true) : chgE t h b s = 8 ∧ chgT t h b s = t := by
  have e : chgE t h b s = 8 := by unfold chgE; rw [if_neg (by simp [hm]), if_neg (by simp [hs]), if_pos hd]
  exact ⟨e, by unfold chgT; rw [e, if_neg (by decide)]⟩
theorem chg_pay {t : Txn} {h b : Int} {s : ByteArray} (hm : mayE t h b = 0) (hs : s.size = 32) (hd : hasB t.dt b = false) : chgE t h b s = payE t h b := by
  unfold chgE; rw [if_neg (by simp [hm]), if_neg (by simp [hs]), if_neg (by simp [hd])]
theorem chg_broke {t : Txn} {h b : Int} {s : ByteArray} (hm : mayE t h b = 0) (hs : s.size = 32) (hd : hasB t.dt b = false) (hp : ¬ payE t h b = 0) : chgE t h b s = payE t h b ∧ chgT t h b s = t :=
  ⟨chg_pay hm hs hd, by unfold chgT; rw [chg_pay hm hs hd, if_neg hp]⟩
theorem chg_ok {t : Txn} {h b : Int} {s : ByteArray} (hm : mayE t h b = 0) (hs : s.size = 32) (hd : hasB t.dt b = false) (hp : payE t h b = 0) : chgE t h b s = 0 ∧ chgT t h b s = { payU t h b with mt := putL t.mt b s, rev := offI t.rev b } := by
  have e : chgE t h b s = 0 := by rw [chg_pay hm hs hd, hp]
  exact ⟨e, by unfold chgT; rw [if_pos e, payU_zero hp]⟩
theorem fil_may {t : Txn} {h b : Int} {s : ByteArray} (hm : ¬ mayE t h b = 0) : filE t h b s = mayE t h b ∧ filT t h b s = t := by
  have e : filE t h b s = mayE t h b := by unfold filE; rw [if_pos hm]
  exact ⟨e, by unfold filT; rw [e, if_neg hm]⟩
theorem fil_form {t : Txn} {h b : Int} {s : ByteArray} (hm : mayE t h b = 0) (hs : ¬ s.size = 32) : filE t h b s = 1 ∧ filT t h b s = t := by
  have e : filE t h b s = 1 := by unfold filE; rw [if_neg (by simp [hm]), if_pos hs]
  exact ⟨e, by unfold filT; rw [e, if_neg (by decide)]⟩
theorem fil_role {t : Txn} {h b : Int} {s : ByteArray} (hm : mayE t h b = 0) (hs : s.size = 32) (hd : (hasB t.mt b || inI t.rev b) = true) : filE t h b s = 8 ∧ filT t h b s = t := by
  have e : filE t h b s = 8 := by unfold filE owed; rw [if_neg (by simp [hm]), if_neg (by simp [hs]), if_pos (by rw [hd]; rfl)]
  exact ⟨e, by unfold filT; rw [e, if_neg (by decide)]⟩
theorem fil_ok {t : Txn} {h b : Int} {s : ByteArray} (hm : mayE t h b = 0) (hs : s.size = 32) (hd : (hasB t.mt b || inI t.rev b) = false) : filE t h b s = 0 ∧ filT t h b s = { t with dt := putL t.dt b s } := by
  have e : filE t h b s = 0 := by unfold filE owed; rw [if_neg (by simp [hm]), if_neg (by simp [hs]), if_neg (by rw [hd]; decide)]
  exact ⟨e, by unfold filT; rw [if_pos e]⟩
theorem rvk_may {t : Txn} {h b : Int} (hm : ¬ mayE t h b = 0) : rvkE t h b = mayE t h b ∧ rvkT t h b = t := by
  have e : rvkE t h b = mayE t h b := by unfold rvkE; rw [if_pos hm]
  exact ⟨e, by unfold rvkT; rw [e, if_neg hm]⟩
theorem rvk_twice {t : Txn} {h b : Int} (hm : mayE t h b = 0) (hr : inI t.rev b = true) : rvkE t h b = 5 ∧ rvkT t h b = t := by
  have e : rvkE t h b = 5 := by unfold rvkE; rw [if_neg (by simp [hm]), if_pos hr]
  exact ⟨e, by unfold rvkT; rw [e, if_neg (by decide)]⟩
theorem rvk_pay {t : Txn} {h b : Int} (hm : mayE t h b = 0) (hr : inI t.rev b = false) : rvkE t h b = payE t h b := by
  unfold rvkE; rw [if_neg (by simp [hm]), if_neg (by simp [hr])]
theorem rvk_broke {t : Txn} {h b : Int} (hm : mayE t h b = 0) (hr : inI t.rev b = false) (hp : ¬ payE t h b = 0) : rvkE t h b = payE t h b ∧ rvkT t h b = t :=
  ⟨rvk_pay hm hr, by unfold rvkT; rw [rvk_pay hm hr, if_neg hp]⟩
theorem rvk_ok {t : Txn} {h b : Int} (hm : mayE t h b = 0) (hr : inI t.rev b = false) (hp : payE t h b = 0) : rvkE t h b = 0 ∧ rvkT t h b = { payU t h b with mt := dropC t.mt b, dt := dropC t.dt b, rev := insI t.rev b } := by
  have e : rvkE t h b = 0 := by rw [rvk_pay hm hr, hp]
  exact ⟨e, by unfold rvkT; rw [if_pos e, payU_zero hp]⟩

/-! ### Good -/
theorem apart_iff2 (t : Txn) : apart t = true ↔ (∀ b, inI t.rev b = true → hasB t.mt b = false ∧ hasB t.dt b = false) ∧ (∀ b, hasB t.mt b = true → hasB t.dt b = false) := by
  unfold apart
  rw [Bool.and_eq_true, List.all_eq_true, List.all_eq_true]
  constructor
  · rintro ⟨h1, h2⟩
    refine ⟨fun b hb => ?_, fun b hb => ?_⟩
    · have := h1 b (inI_iff.1 hb)
      simpa using this
    · obtain ⟨c, hc, rfl⟩ := hasB_iff.1 hb
      have := h2 c hc
      simpa using this
  · rintro ⟨h1, h2⟩
    refine ⟨fun b hb => ?_, fun c hc => ?_⟩
    · obtain ⟨a1, a2⟩ := h1 b (inI_iff.2 hb)
      simp [a1, a2]
    · simp [h2 c.block (hasB_iff.2 ⟨c, hc, rfl⟩)]
structure GoodT (t : Txn) : Prop where
  seq : 1 ≤ t.seq ∧ t.seq ≤ 2147483647
  mt : copiesB t.mt = true
  dt : copiesB t.dt = true
  rev : rise t.rev = true
  ap : (∀ b, inI t.rev b = true → hasB t.mt b = false ∧ hasB t.dt b = false) ∧ (∀ b, hasB t.mt b = true → hasB t.dt b = false)
  h0 : hOk t.h0 = true
  h1 : hOk t.h1 = true
  h2 : hOk t.h2 = true
theorem goodT_of {t : Txn} : goodT t = true ↔ GoodT t := by
  rw [goodT_iff]
  constructor
  · rintro ⟨a, b, c, d, e, f, g, h⟩
    exact ⟨of_decide_eq_true a, b, c, d, (apart_iff2 t).1 e, f, g, h⟩
  · rintro ⟨a, b, c, d, e, f, g, h⟩
    exact ⟨decide_eq_true a, b, c, d, (apart_iff2 t).2 e, f, g, h⟩
theorem may_zero {t : Txn} {h b : Int} (e : mayE t h b = 0) : goodT t = true ∧ (0 ≤ h ∧ h ≤ 2) ∧ (getH t h).on = true ∧ isBlk b = true := by
  unfold mayE at e
  split at e
  · cases e
  · rename_i hg
    split at e
    · cases e
    · rename_i hn
      refine ⟨by simpa using hg, ?_, ?_, ?_⟩
      · exact Decidable.byContradiction fun hh => hn (.inl hh)
      · cases ho : (getH t h).on with
        | true => rfl
        | false => exact absurd (.inr (.inl ho)) hn
      · cases hb : isBlk b with
        | true => rfl
        | false => exact absurd (.inr (.inr hb)) hn
theorem getH_ok {t : Txn} (g : GoodT t) (h : Int) : hOk (getH t h) = true := by
  unfold getH; split
  · exact g.h0
  · split
    · exact g.h1
    · exact g.h2
theorem setH_good {t : Txn} (g : GoodT t) (h : Int) {x : Hnd} (hx : hOk x = true) : GoodT (setH t h x) := by
  obtain ⟨e1, e2, e3, e4⟩ := setH_same t h x
  refine ⟨by rw [e1]; exact g.seq, by rw [e2]; exact g.mt, by rw [e3]; exact g.dt, by rw [e4]; exact g.rev, by rw [e2, e3, e4]; exact g.ap, ?_, ?_, ?_⟩
  · unfold setH; split
    · exact hx
    · split <;> exact g.h0
  · unfold setH; split
    · exact g.h1
    · split
      · exact hx
      · exact g.h1
  · unfold setH; split
    · exact g.h2
    · split
      · exact g.h2
      · exact hx
theorem payE_zero {t : Txn} {h b : Int} (e : payE t h b = 0) : owed t b = true → (getH t h).left ≠ 0 := fun ho hl => by
  unfold payE at e; rw [if_pos ⟨ho, hl⟩] at e; cases e
theorem payE_cases (t : Txn) (h b : Int) : payE t h b = 0 ∨ payE t h b = 7 := by
  unfold payE; split
  · exact .inr rfl
  · exact .inl rfl
theorem pay_good {t : Txn} (g : GoodT t) {h b : Int} (ho : (getH t h).on = true) (e : payE t h b = 0) : GoodT (payT t h b) := by
  unfold payT
  split
  · rename_i hw
    have hl := payE_zero e hw
    have hk := (hOk_iff' _).1 (getH_ok g h)
    refine setH_good g h ((hOk_iff' _).2 ⟨?_, ?_, .inl ho⟩)
    · show 0 ≤ (getH t h).left - 1; omega
    · show (getH t h).left - 1 ≤ 24; omega
  · exact g
theorem chgE_zero {t : Txn} {h b : Int} {s : ByteArray} (e : chgE t h b s = 0) : mayE t h b = 0 ∧ s.size = 32 ∧ hasB t.dt b = false ∧ payE t h b = 0 := by
  unfold chgE at e
  split at e
  · rename_i h1; exact absurd e h1
  · rename_i h1
    split at e
    · cases e
    · rename_i h2
      split at e
      · cases e
      · rename_i h3
        exact ⟨Decidable.not_not.1 h1, Decidable.not_not.1 h2, by simpa using h3, e⟩
theorem filE_zero {t : Txn} {h b : Int} {s : ByteArray} (e : filE t h b s = 0) : mayE t h b = 0 ∧ s.size = 32 ∧ hasB t.mt b = false ∧ inI t.rev b = false := by
  unfold filE at e
  split at e
  · rename_i h1; exact absurd e h1
  · rename_i h1
    split at e
    · cases e
    · rename_i h2
      split at e
      · cases e
      · rename_i h3
        have : owed t b = true := by simpa using h3
        unfold owed at this
        rw [Bool.not_eq_true', Bool.or_eq_false_iff] at this
        exact ⟨Decidable.not_not.1 h1, Decidable.not_not.1 h2, this.1, this.2⟩
theorem rvkE_zero {t : Txn} {h b : Int} (e : rvkE t h b = 0) : mayE t h b = 0 ∧ inI t.rev b = false ∧ payE t h b = 0 := by
  unfold rvkE at e
  split at e
  · rename_i h1; exact absurd e h1
  · rename_i h1
    split at e
    · cases e
    · rename_i h3
      exact ⟨Decidable.not_not.1 h1, by simpa using h3, e⟩
theorem chg_good {t : Txn} {h b : Int} {s : ByteArray} (hg : goodT t = true) : goodT (chgT t h b s) = true := by
  unfold chgT
  split
  · rename_i e
    obtain ⟨hm, hs, hd, hp⟩ := chgE_zero e
    obtain ⟨_, hh, ho, hb⟩ := may_zero hm
    have g := goodT_of.1 hg
    have gp := pay_good g ho hp
    obtain ⟨e1, e2, e3, e4⟩ := payT_same t h b
    refine goodT_of.2 ⟨gp.seq, put_copies g.mt hb hs, gp.dt, off_rise b g.rev, ?_, gp.h0, gp.h1, gp.h2⟩
    dsimp only
    rw [e3]
    refine ⟨fun x hx => ?_, fun x hx => ?_⟩
    · rw [off_in, Bool.and_eq_true, decide_eq_true_eq] at hx
      rw [put_has b s g.mt]
      have := g.ap.1 x hx.1
      simp [this.1, this.2, hx.2]
    · rw [put_has b s g.mt, Bool.or_eq_true, decide_eq_true_eq] at hx
      rcases hx with rfl | hx
      · exact hd
      · exact g.ap.2 x hx
  · exact hg
theorem fil_good {t : Txn} {h b : Int} {s : ByteArray} (hg : goodT t = true) : goodT (filT t h b s) = true := by
  unfold filT
  split
  · rename_i e
    obtain ⟨hm, hs, hn, hr⟩ := filE_zero e
    obtain ⟨_, hh, ho, hb⟩ := may_zero hm
    have g := goodT_of.1 hg
    refine goodT_of.2 ⟨g.seq, g.mt, put_copies g.dt hb hs, g.rev, ?_, g.h0, g.h1, g.h2⟩
    dsimp only
    refine ⟨fun x hx => ?_, fun x hx => ?_⟩
    · rw [put_has b s g.dt]
      have := g.ap.1 x hx
      have hne : x ≠ b := fun hxb => by rw [hxb, hr] at hx; cases hx
      simp [this.1, this.2, hne]
    · rw [put_has b s g.dt]
      have hne : x ≠ b := fun hxb => by rw [hxb, hn] at hx; cases hx
      simp [g.ap.2 x hx, hne]
  · exact hg
theorem rvk_good {t : Txn} {h b : Int} (hg : goodT t = true) : goodT (rvkT t h b) = true := by
  unfold rvkT
  split
  · rename_i e
    obtain ⟨hm, hr, hp⟩ := rvkE_zero e
    obtain ⟨_, hh, ho, hb⟩ := may_zero hm
    have g := goodT_of.1 hg
    have gp := pay_good g ho hp
    refine goodT_of.2 ⟨gp.seq, drop_copies b g.mt, drop_copies b g.dt, ins_rise g.rev hb hr, ?_, gp.h0, gp.h1, gp.h2⟩
    dsimp only
    refine ⟨fun x hx => ?_, fun x hx => ?_⟩
    · rw [ins_in, Bool.or_eq_true, decide_eq_true_eq] at hx
      rw [drop_has, drop_has]
      rcases hx with rfl | hx
      · simp
      · have := g.ap.1 x hx
        simp [this.1, this.2]
    · rw [drop_has, Bool.and_eq_true] at hx
      rw [drop_has]
      simp [g.ap.2 x hx.1]
  · exact hg
theorem beg_good {t : Txn} {h n free : Int} (hg : goodT t = true) : goodT (begT t h n free) = true := by
  unfold begT
  split
  · rename_i e
    unfold begE at e
    have g := goodT_of.1 hg
    have hn : 0 ≤ n ∧ n ≤ 12 := by
      repeat (first | (split at e <;> first | (cases e; done) | skip) | omega)
    exact goodT_of.2 (setH_good g h ((hOk_iff' _).2 ⟨hn.1, by show n ≤ 24; omega, .inl rfl⟩))
  · exact hg
theorem stop_good {t : Txn} {h : Int} (hg : goodT t = true) : goodT (stopT t h) = true := by
  unfold stopT
  split
  · exact goodT_of.2 (setH_good (goodT_of.1 hg) h (by decide))
  · exact hg
end Wb

namespace Wb
open Go Go.RowKit
def askN (t : Txn) : Int := (t.mt.length : Int) + t.rev.length + t.h0.left + t.h1.left + t.h2.left
theorem lens {t : Txn} (g : GoodT t) : t.mt.length ≤ 12 ∧ t.dt.length ≤ 12 ∧ t.rev.length ≤ 12 := ⟨copies_len g.mt, copies_len g.dt, rise_len g.rev⟩
theorem asked_ask {t : Txn} (hg : goodT t = true) : askedI t = askN t := by
  obtain ⟨a, _, b⟩ := lens (goodT_of.1 hg)
  exact asked_sum hg (by omega) (by omega)
theorem hnds_bd {t : Txn} (g : GoodT t) : (0 ≤ t.h0.left ∧ t.h0.left ≤ 24) ∧ (0 ≤ t.h1.left ∧ t.h1.left ≤ 24) ∧ (0 ≤ t.h2.left ∧ t.h2.left ≤ 24) := hnd_of_good (goodT_of.2 g)
theorem ask_bd {t : Txn} (g : GoodT t) : 0 ≤ askN t ∧ askN t ≤ 96 := by
  obtain ⟨a, _, b⟩ := lens g
  have := hnds_bd g
  unfold askN; omega
theorem ask_set (t : Txn) {h : Int} (hh : 0 ≤ h ∧ h ≤ 2) (x : Hnd) : askN (setH t h x) = askN t - (getH t h).left + x.left := by
  obtain (rfl | rfl | rfl) : h = 0 ∨ h = 1 ∨ h = 2 := by omega
  · have e1 : setH t 0 x = { t with h0 := x } := rfl
    have e2 : getH t 0 = t.h0 := rfl
    rw [e1, e2]; simp only [askN]; omega
  · have e1 : setH t 1 x = { t with h1 := x } := rfl
    have e2 : getH t 1 = t.h1 := rfl
    rw [e1, e2]; simp only [askN]; omega
  · have e1 : setH t 2 x = { t with h2 := x } := rfl
    have e2 : getH t 2 = t.h2 := rfl
    rw [e1, e2]; simp only [askN]; omega
theorem drop_len {l : List Cpy} (b : Int) (h : copiesB l = true) : (dropC l b).length + (if hasB l b then 1 else 0) = l.length := by
  have h1 := ((copies_pw l).1 h).1
  clear h
  induction l with
  | nil => rfl
  | cons x l ih =>
    rw [blks, List.map_cons, List.pairwise_cons] at h1
    have := ih h1.2
    by_cases e : x.block = b
    · have hn : hasB l b = false := by
        cases hb : hasB l b with
        | false => rfl
        | true =>
          obtain ⟨c, hc, hcb⟩ := hasB_iff.1 hb
          have := h1.1 c.block (List.mem_map_of_mem hc); omega
      rw [hn] at this
      have hi : hasB (x :: l) b = true := hasB_iff.2 ⟨x, by simp, e⟩
      rw [hi]
      simp [dropC, e] at this ⊢
      exact this
    · have hi : hasB (x :: l) b = hasB l b := by
        unfold hasB; rw [List.any_cons]; simp [e]
      rw [hi]
      simp [dropC, e] at this ⊢
      omega
theorem ask_pay (t : Txn) {h b : Int} (hh : 0 ≤ h ∧ h ≤ 2) : askN (payT t h b) = askN t - (if owed t b then 1 else 0) := by
  unfold payT
  split
  · rename_i e
    rw [ask_set t hh]; simp only; omega
  · omega
theorem ask_swap (t : Txn) (m d : List Cpy) (r : List Int) : askN { t with mt := m, dt := d, rev := r } = askN t - t.mt.length - t.rev.length + m.length + r.length := by
  simp only [askN]; omega
theorem chg_ask {t : Txn} {h b : Int} {s : ByteArray} (hg : goodT t = true) : askN (chgT t h b s) = askN t := by
  unfold chgT
  split
  · rename_i e
    obtain ⟨hm, hs, hd, hp⟩ := chgE_zero e
    obtain ⟨_, hh, ho, hb⟩ := may_zero hm
    have g := goodT_of.1 hg
    obtain ⟨e1, e2, e3, e4⟩ := payT_same t h b
    have h1 := ask_swap (payT t h b) (putL t.mt b s) (payT t h b).dt (offI t.rev b)
    have h2 := put_len b s g.mt
    have h3 := off_len b g.rev
    have h4 := ask_pay t (b := b) hh
    have h5 := g.ap.1 b
    rw [h1, h4, e2, e4]
    unfold owed
    cases hq : hasB t.mt b <;> cases hr : inI t.rev b <;> rw [hq] at h2 <;> rw [hr] at h3
    · simp at h2 h3 ⊢; omega
    · simp at h2 h3 ⊢; omega
    · simp at h2 h3 ⊢; omega
    · have := (h5 hr).1; rw [hq] at this; cases this
  · rfl
theorem fil_ask {t : Txn} {h b : Int} {s : ByteArray} : askN (filT t h b s) = askN t := by
  unfold filT
  split <;> rfl
theorem rvk_ask {t : Txn} {h b : Int} (hg : goodT t = true) : askN (rvkT t h b) = askN t := by
  unfold rvkT
  split
  · rename_i e
    obtain ⟨hm, hr, hp⟩ := rvkE_zero e
    obtain ⟨_, hh, ho, hb⟩ := may_zero hm
    have g := goodT_of.1 hg
    obtain ⟨e1, e2, e3, e4⟩ := payT_same t h b
    have h1 := ask_swap (payT t h b) (dropC t.mt b) (dropC t.dt b) (insI t.rev b)
    have h2 := drop_len b g.mt
    have h3 := ins_len t.rev b
    have h4 := ask_pay t (b := b) hh
    rw [h1, h4, e2, e4]
    unfold owed
    rw [hr]
    cases hq : hasB t.mt b <;> rw [hq] at h2
    · simp at h2 ⊢; omega
    · simp at h2 ⊢; omega
  · rfl
theorem stop_ask {t : Txn} {h : Int} (hg : goodT t = true) : askN (stopT t h) ≤ askN t := by
  unfold stopT
  split
  · rename_i e
    have hh : 0 ≤ h ∧ h ≤ 2 := by
      unfold stopE at e
      rw [if_neg (by rw [hg]; decide)] at e
      split at e
      · cases e
      · rename_i hn
        exact Decidable.byContradiction fun hh => hn (.inl hh)
    rw [ask_set t hh]
    have := (hOk_iff' _).1 (getH_ok (goodT_of.1 hg) h)
    simp only [hnd0]; omega
  · omega
theorem begE_zero {t : Txn} {h n free : Int} (e : begE t h n free = 0) : goodT t = true ∧ (0 ≤ h ∧ h ≤ 2) ∧ (getH t h).on = false ∧ (0 ≤ n ∧ n ≤ 12) ∧ askedI t + n ≤ 24 ∧ mostN (askedI t + n) ≤ free := by
  unfold begE at e
  split at e
  · cases e
  · rename_i h1
    split at e
    · cases e
    · rename_i h2
      split at e
      · cases e
      · rename_i h3
        split at e
        · cases e
        · rename_i h4
          split at e
          · cases e
          · rename_i h5
            exact ⟨by simpa using h1, Decidable.not_not.1 h2, by simpa using h3, by omega, by omega, by omega⟩
theorem beg_ask {t : Txn} {h n free : Int} (e : begE t h n free = 0) : askN (begT t h n free) = askN t + n ∧ askN t + n ≤ 24 ∧ mostN (askN t + n) ≤ free := by
  obtain ⟨hg, hh, ho, hn, h1, h2⟩ := begE_zero e
  rw [asked_ask hg] at h1 h2
  refine ⟨?_, h1, h2⟩
  unfold begT
  rw [if_pos e, ask_set t hh]
  have hk := (hOk_iff' _).1 (getH_ok (goodT_of.1 hg) h)
  have : (getH t h).left = 0 := by
    rcases hk.2.2 with h | h
    · rw [ho] at h; cases h
    · exact h
  rw [this]; simp only; omega
theorem most_mono {a b : Int} (h : a ≤ b) : mostN a ≤ mostN b := by unfold mostN clamp24 partsOf; omega
theorem need_most {t : Txn} (g : GoodT t) : needN t.mt.length t.rev.length ≤ mostN (askN t) ∧ needE t.mt.length t.rev.length = 0 := by
  obtain ⟨a, _, b⟩ := lens g
  obtain ⟨h0, h1, h2⟩ := hnds_bd g
  have e : needE t.mt.length t.rev.length = 0 := by unfold needE; rw [if_neg (by omega)]
  refine ⟨?_, e⟩
  unfold needN
  rw [if_pos e]
  unfold mostN clamp24 partsOf askN
  omega
end Wb

namespace Wb
open Go Go.RowKit
theorem chgT_len {t : Txn} {h b : Int} {s : ByteArray} (h1 : t.mt.length ≤ 5864062014805) (h2 : t.dt.length ≤ 5864062014805) (h3 : t.rev.length ≤ 17592186044160) : (chgT t h b s).mt.length ≤ 5864062014805 ∧ (chgT t h b s).dt.length ≤ 5864062014805 ∧ (chgT t h b s).rev.length ≤ 17592186044160 := by
  by_cases e : chgE t h b s = 0
  · have hg : GoodT (chgT t h b s) := goodT_of.1 (chg_good (may_zero (by by_cases hm : mayE t h b = 0; exact hm; rw [(chg_may (s := s) hm).1] at e; exact e)).1)
    obtain ⟨a, b, c⟩ := lens hg
    exact ⟨by omega, by omega, by omega⟩
  · have : chgT t h b s = t := by unfold chgT; rw [if_neg e]
    rw [this]; exact ⟨h1, h2, h3⟩
theorem filT_len {t : Txn} {h b : Int} {s : ByteArray} (h1 : t.mt.length ≤ 5864062014805) (h2 : t.dt.length ≤ 5864062014805) (h3 : t.rev.length ≤ 17592186044160) : (filT t h b s).mt.length ≤ 5864062014805 ∧ (filT t h b s).dt.length ≤ 5864062014805 ∧ (filT t h b s).rev.length ≤ 17592186044160 := by
  by_cases e : filE t h b s = 0
  · have hg : GoodT (filT t h b s) := goodT_of.1 (fil_good (may_zero (by by_cases hm : mayE t h b = 0; exact hm; rw [(fil_may (s := s) hm).1] at e; exact e)).1)
    obtain ⟨a, b, c⟩ := lens hg
    exact ⟨by omega, by omega, by omega⟩
  · have : filT t h b s = t := by unfold filT; rw [if_neg e]
    rw [this]; exact ⟨h1, h2, h3⟩
theorem rvkT_len {t : Txn} {h b : Int} (h1 : t.mt.length ≤ 5864062014805) (h2 : t.dt.length ≤ 5864062014805) (h3 : t.rev.length ≤ 17592186044160) : (rvkT t h b).mt.length ≤ 5864062014805 ∧ (rvkT t h b).dt.length ≤ 5864062014805 ∧ (rvkT t h b).rev.length ≤ 17592186044160 := by
  by_cases e : rvkE t h b = 0
  · have hg : GoodT (rvkT t h b) := goodT_of.1 (rvk_good (may_zero (by by_cases hm : mayE t h b = 0; exact hm; rw [(rvk_may hm).1] at e; exact e)).1)
    obtain ⟨a, b, c⟩ := lens hg
    exact ⟨by omega, by omega, by omega⟩
  · have : rvkT t h b = t := by unfold rvkT; rw [if_neg e]
    rw [this]; exact ⟨h1, h2, h3⟩
end Wb

namespace Wb
/-- A text as a block: cut, or filled up with noughts. -/
def fitL (s : List UInt8) : List UInt8 := s.take 32 ++ List.replicate (32 - s.length) 0
theorem fitL_len (s : List UInt8) : (fitL s).length = 32 := by rw [fitL, List.length_append, List.length_take, List.length_replicate]; omega
theorem fitL_same {s : List UInt8} (h : s.length = 32) : fitL s = s := by rw [fitL, h, List.take_of_length_le (Nat.le_of_eq h), Nat.sub_self, List.replicate_zero, List.append_nil]
def fit (s : ByteArray) : ByteArray := str (fitL s.data.toList)
theorem fit_size (s : ByteArray) : (fit s).size = 32 := by rw [fit, str_size, fitL_len]
theorem fit_same {s : ByteArray} (h : s.size = 32) : fit s = s := by
  rw [fit, fitL_same (by rw [Array.length_toList]; exact h), str_toList]
/-- The first k bytes of a text, noughts behind them, 32 in all. -/
def fitPart (s : List UInt8) (k : Nat) : List UInt8 := s.take k ++ List.replicate (32 - k) 0
theorem fitPart_len {s : List UInt8} {k : Nat} (h : k ≤ s.length) (h2 : k ≤ 32) : (fitPart s k).length = 32 := by simp [fitPart]; omega
theorem fitPart_zero (s : List UInt8) : fitPart s 0 = List.replicate 32 0 := by simp [fitPart]
theorem fitPart_set {s : List UInt8} {k : Nat} (h : k < s.length) (h2 : k < 32) : (fitPart s k).set k s[k] = fitPart s (k + 1) := by
  apply List.ext_getElem?
  intro i
  unfold fitPart
  have hl : (s.take k).length = k := by simp; omega
  have hl1 : (s.take (k + 1)).length = k + 1 := by simp; omega
  rw [List.getElem?_set]
  by_cases e : k = i
  · subst e
    rw [if_pos rfl, if_pos (by simp; omega), List.getElem?_append_left (by omega), List.getElem?_take_of_lt (by omega)]
    simp [h]
  · rw [if_neg e]
    by_cases e2 : i < k
    · rw [List.getElem?_append_left (by omega), List.getElem?_append_left (by omega), List.getElem?_take_of_lt e2, List.getElem?_take_of_lt (by omega)]
    · rw [List.getElem?_append_right (by omega), List.getElem?_append_right (by omega), hl, hl1, List.getElem?_replicate, List.getElem?_replicate]
      by_cases e3 : i < 32
      · rw [if_pos (by omega), if_pos (by omega)]
      · rw [if_neg (by omega), if_neg (by omega)]
theorem fitPart_full {s : List UInt8} {k : Nat} (h : k ≤ s.length) (h2 : k ≤ 32) (h3 : ¬ (k < s.length ∧ k < 32)) : fitPart s k = fitL s := by
  unfold fitPart fitL
  by_cases e : s.length ≤ 32
  · obtain rfl : k = s.length := by omega
    rw [List.take_of_length_le (Nat.le_refl _), List.take_of_length_le e]
  · obtain rfl : k = 32 := by omega
    simp; omega
end Wb

namespace Wb
open Go Go.RowKit
structure Ord where
  kind : Int
  h : Int
  b : Int
  n : Int
  text : ByteArray
def ordC (o : Ord) : List Value := [.int .i64 o.kind, .int .i64 o.h, .int .i64 o.b, .int .i64 o.n, .string o.text]
theorem ordC_len (o : Ord) : (ordC o).length = 5 := rfl
theorem ordC_flat : Flat ordC 5 := ⟨fun _ => rfl, fun _ u hu => by simp [ordC] at hu; rcases hu with rfl | rfl | rfl | rfl | rfl <;> rfl, by decide⟩
/-- What an order makes of a transaction. -/
def ordT (t : Txn) (o : Ord) (fr : Int) : Txn :=
  if o.kind % 5 = 0 then begT t (o.h % 3) o.n fr else if o.kind % 5 = 1 then chgT t (o.h % 3) (o.b % 12) (fit o.text) else if o.kind % 5 = 2 then filT t (o.h % 3) (o.b % 12) (fit o.text)
    else if o.kind % 5 = 3 then rvkT t (o.h % 3) (o.b % 12) else stopT t (o.h % 3)
def ordE (t : Txn) (o : Ord) (fr : Int) : Int :=
  if o.kind % 5 = 0 then begE t (o.h % 3) o.n fr else if o.kind % 5 = 1 then chgE t (o.h % 3) (o.b % 12) (fit o.text) else if o.kind % 5 = 2 then filE t (o.h % 3) (o.b % 12) (fit o.text)
    else if o.kind % 5 = 3 then rvkE t (o.h % 3) (o.b % 12) else stopE t (o.h % 3)
theorem ord_good {t : Txn} {o : Ord} {fr : Int} (hg : goodT t = true) : goodT (ordT t o fr) = true := by
  unfold ordT
  split
  · exact beg_good hg
  split
  · exact chg_good hg
  split
  · exact fil_good hg
  split
  · exact rvk_good hg
  · exact stop_good hg
/-- Only one that begins asks for more. -/
theorem ord_less {t : Txn} {o : Ord} {fr : Int} (hg : goodT t = true) (hk : ¬ o.kind % 5 = 0) : askedI (ordT t o fr) ≤ askedI t := by
  rw [asked_ask hg, asked_ask (ord_good hg)]
  unfold ordT
  rw [if_neg hk]
  split
  · rw [chg_ask hg]; exact Int.le_refl _
  split
  · rw [fil_ask]; exact Int.le_refl _
  split
  · rw [rvk_ask hg]; exact Int.le_refl _
  · exact stop_ask hg
/-- Behind one that begins there is room. -/
theorem ord_room {t : Txn} {o : Ord} {fr : Int} (hk : o.kind % 5 = 0) (he : ordE t o fr = 0) : mostN (askedI (ordT t o fr)) ≤ fr := by
  unfold ordE at he
  unfold ordT
  rw [if_pos hk] at he ⊢
  have hg := (begE_zero he).1
  rw [asked_ask (beg_good hg)]
  obtain ⟨e, _, h⟩ := beg_ask he
  rw [e]; exact h
/-- Nothing that is refused asks for more: it is the transaction as it was. -/
theorem ord_same {t : Txn} {o : Ord} {fr : Int} (he : ¬ ordE t o fr = 0) : ordT t o fr = t := by
  unfold ordE at he; unfold ordT
  split
  · rename_i h; rw [if_pos h] at he; unfold begT; rw [if_neg he]
  rename_i h; rw [if_neg h] at he
  split
  · rename_i h; rw [if_pos h] at he; unfold chgT; rw [if_neg he]
  rename_i h; rw [if_neg h] at he
  split
  · rename_i h; rw [if_pos h] at he; unfold filT; rw [if_neg he]
  rename_i h; rw [if_neg h] at he
  split
  · rename_i h; rw [if_pos h] at he; unfold rvkT; rw [if_neg he]
  · rename_i h; rw [if_neg h] at he; unfold stopT; rw [if_neg he]
/-- What is kept from order to order: good; and where something was let begin there is room. -/
structure OrdInv (t : Txn) (begun : Bool) (fr : Int) : Prop where
  good : goodT t = true
  room : begun = true → mostN (askedI t) ≤ fr
theorem OrdInv.step {t : Txn} {begun : Bool} {fr : Int} (h : OrdInv t begun fr) (o : Ord) : OrdInv (ordT t o fr) (begun || (ordE t o fr == 0 && o.kind % 5 == 0)) fr := by
  refine ⟨ord_good h.good, fun hb => ?_⟩
  by_cases he : ordE t o fr = 0
  · by_cases hk : o.kind % 5 = 0
    · exact ord_room hk he
    · have hb2 : begun = true := by simpa [hk] using hb
      exact Int.le_trans (most_mono (ord_less h.good hk)) (h.room hb2)
  · rw [ord_same he]
    exact h.room (by simpa [he] using hb)
/-- What the law asks of a transaction behind each order. -/
theorem OrdInv.need {t : Txn} {begun : Bool} {fr : Int} (h : OrdInv t begun fr) : needE t.mt.length t.rev.length = 0 ∧ needN t.mt.length t.rev.length ≤ mostN (askedI t) := by
  obtain ⟨h1, h2⟩ := need_most (goodT_of.1 h.good)
  rw [asked_ask h.good]
  exact ⟨h2, h1⟩
theorem txn0_inv (fr : Int) : OrdInv (txn0 1) false fr := ⟨by decide, fun h => by cases h⟩
end Wb

namespace Wb
instance : Inhabited Ord := ⟨⟨0, 0, 0, 0, ⟨#[]⟩⟩⟩
end Wb
namespace Go.Proofs.Ytjhmfljlclajnac
open Go.ChangeShapes Go.WideShapes Go.ChangeAt Go.RowKit Go.Joins Wb
set_option maxRecDepth 100000
section
variable {H : Type} {enc : TypeId × Value → H} {W : World} {base : Nat}
theorem read_ordCells {n : Nat} {cs : List Value} {x : DataW H × List MemPlace} (hlen : cs.length = 5) (h : DataW.trod enc Try.prog W 0 (fun _ => true) true n 47 cs = some x) : ∃ o : Wb.Ord, cs = ordC o ∧ o.text.size ≤ maxLen := by
  obtain ⟨xs, m, _, hx, hl, hln, hg⟩ := DataW.trod_struct Try.underlying47 h
  match cs, hlen, xs, hln with
  | [u0, u1, u2, u3, u4], _, [y0, y1, y2, y3, y4], _ =>
    have h0 : DataW.trod enc Try.prog W 0 (fun _ => true) true m 3 [u0] = some y0 := hg 0 _ rfl
    have h1 : DataW.trod enc Try.prog W 0 (fun _ => true) true m 3 [u1] = some y1 := hg 1 _ rfl
    have h2 : DataW.trod enc Try.prog W 0 (fun _ => true) true m 3 [u2] = some y2 := hg 2 _ rfl
    have h3 : DataW.trod enc Try.prog W 0 (fun _ => true) true m 3 [u3] = some y3 := hg 3 _ rfl
    have h4 : DataW.trod enc Try.prog W 0 (fun _ => true) true m 9 [u4] = some y4 := hg 4 _ rfl
    obtain ⟨a0, e0, _⟩ := DataW.trod_int Try.underlying3 h0
    obtain ⟨a1, e1, _⟩ := DataW.trod_int Try.underlying3 h1
    obtain ⟨a2, e2, _⟩ := DataW.trod_int Try.underlying3 h2
    obtain ⟨a3, e3, _⟩ := DataW.trod_int Try.underlying3 h3
    obtain ⟨a4, e4, _, hs⟩ := DataW.trod_string Try.underlying9 h4
    simp at e0 e1 e2 e3 e4
    subst e0 e1 e2 e3 e4
    exact ⟨⟨a0, a1, a2, a3, a4⟩, rfl, hs⟩
theorem open_orders {v : Value} {d : DataW H} {p : List MemPlace} (hv : Value.okWide Try.prog W .any base 43 v)
    (h : DataW.Trod enc Try.prog W 0 (fun _ => true) true 43 v d p) : ∃ l : List Wb.Ord, RL ordC W v l ∧ ∀ o ∈ l, o.text.size ≤ 9223372036854775807 := by
  obtain ⟨a, n, c, rfl⟩ := okWide_slice Try.underlying43 hv
  obtain ⟨fuel, hf⟩ := h
  obtain ⟨v', l, hc, hr, hd⟩ := read_RLq (f := ordC) (c := 5) (Q := fun z _ => z.text.size ≤ maxLen) (fun _ => rfl) (by decide) Try.underlying43 (by kernel_rfl) (fun n cs' y hy hlen => read_ordCells hlen hy) (cs := [.slice a n c]) hf
  simp only [List.cons.injEq, and_true] at hc
  subst hc
  refine ⟨l, hr, fun o ho => ?_⟩
  rcases hd with ⟨_, rfl⟩ | ⟨el, sp, hy, hel, hq⟩
  · cases ho
  · obtain ⟨i, hi, rfl⟩ := List.getElem_of_mem ho
    obtain ⟨y, hy2, hq2⟩ := hq i _ (List.getElem?_eq_getElem hi)
    simpa only [maxLen] using hq2
end
end Go.Proofs.Ytjhmfljlclajnac

namespace Wb
open Go Go.RowKit
theorem flat_set {α : Type} {f : α → List Value} {c : Nat} (hf : ∀ x, (f x).length = c) : ∀ (l : List α) (k : Nat) (hk : k < l.length) (y : α) (i : Nat) (u : Value), i < c → f y = (f l[k]).set i u → (l.set k y).flatMap f = (l.flatMap f).set (k * c + i) u
  | [], k, hk, _, _, _, _, _ => by simp at hk
  | x :: l, 0, _, y, i, u, hi, hy => by
    simp only [List.getElem_cons_zero] at hy
    rw [List.set_cons_zero, List.flatMap_cons, List.flatMap_cons, hy, Nat.zero_mul, Nat.zero_add, List.set_append_left _ _ (by rw [hf]; exact hi)]
  | x :: l, k + 1, hk, y, i, u, hi, hy => by
    rw [List.set_cons_succ, List.flatMap_cons, List.flatMap_cons, flat_set hf l k (by simpa using hk) y i u hi (by simpa using hy), List.set_append_right _ _ (by rw [hf, Nat.succ_mul]; omega)]
    congr 2
    rw [hf, Nat.succ_mul]; omega
theorem Own.poke {α : Type} {f : α → List Value} {base : Nat} {e : TypeId} {c : Nat} (hF : Flat f c) {w : World} {v : Value} {l : List α} (h : Own f base e c w v l) {k : Nat} (hk : k < l.length) :
    ∃ g cap, v = .slice (some ⟨g, 0, none⟩) l.length cap ∧ base ≤ g ∧ g < w.heap.size ∧ (∀ i, i < c → w.frozen? ⟨g, k * c + i, none⟩ = false ∧ w.cell? ⟨g, k * c + i, none⟩ = (f l[k])[i]?) ∧
      ∀ i y u, i < c → f y = (f l[k]).set i u → Own f base e c (w.setCell ⟨g, k * c + i, none⟩ u) v (l.set k y) := by
  have hr := h.reads
  obtain ⟨h1, h2⟩ := h
  rcases h2 with ⟨rfl, h0⟩ | ⟨g, cap, cur, rfl, hb, hg, hn, hc, hs, ht⟩
  · rw [h0] at h1
    have hl := flat_len hF.len l
    rw [h0] at hk
    omega
  · refine ⟨g, cap, rfl, hb, (Array.getElem?_eq_some_iff.1 hg).1, fun i hi => ⟨Blk.free (cs := cur) hg _, ?_⟩, fun i y u hi hy => ?_⟩
    · have hlt : i < (f l[k]).length := by rw [hF.len]; exact hi
      have := flat_get hF.len l k l[k] (by simp [hk]) i (f l[k])[i] (by simp [hlt])
      rw [← ht, List.getElem?_take] at this
      split at this
      · rw [Blk.cell (cs := cur) hg, List.getElem?_eq_getElem hlt]; simpa using this
      · simp at this
    · have hb2 := Blk.set (cs := cur) hg (k * c + i) u
      refine ⟨flat_len hF.len _, .inr ⟨g, cap, cur.setIfInBounds (k * c + i) u, by simp, hb, hb2, by simpa using hn, hc, by simpa using hs, ?_⟩⟩
      rw [flat_set hF.len l k hk y i u hi hy, ← ht]
      simp only [List.length_set, Array.toList_setIfInBounds]
      rw [List.take_set]
end Wb

namespace Wb
open Go Go.RowKit
theorem step_app {α : Type} {f : α → List Value} {P : Program} {ops : Array Oper} {o : Oper} {a : Act} {w : World} {K : Act → World → Prop} {Q : Exit → Act → World → Prop} {E : Prop}
    (hg : o.guard = none) (s x : Operand) (t : TypeId) (ho : o.op = .call { callee := .builtin .append, args := #[s, x], argTypes := #[t, t] })
    (base : Nat) (e : TypeId) (c bytes : Nat) (hF : Flat f c) (hT : Elem P t e c bytes) {v : Value} {l : List α} (hown : Own f base e c w v l) (hs : a.eval s = v)
    {vx : Value} (l2 : List α) (hsrc : RL f w vx l2) (hx : a.eval x = vx) (hroom : (l.length + l2.length) * bytes ≤ 140737488355328) (h63 : l.length + l2.length ≤ maxLen) (hbase : base ≤ w.heap.size)
    (hK : ∀ v' w', Own f base e c w' v' (l ++ l2) → Below base w w' → w.grownBy w' v.ownBlock → K (a.put o.dst v') w') :
    if Region.wanted o (yielded ops a.tmps) = true then Oper.wp P o a w K Q else E := by
  have hw : Region.wanted o (yielded ops a.tmps) = true := by simp [Region.wanted, hg]
  rw [if_pos hw]
  obtain ⟨v', w', hr, r1, r2⟩ := run_app (P := P) w base t o.type e c bytes hF hT v l hown vx l2 hsrc hroom h63 hbase
  have hlt := World.ownsRow.lt hown
  unfold Oper.wp execOp
  simp only [ho, resolve, invoke, builtin, Sem.run_bind, Sem.run_pure, Result.andThen_ok, List.map_toArray, List.map_cons, List.map_nil, hs, hx, hr]
  exact hK _ _ r1 ((Below.refl base w).grown r2 hbase (fun k hk => (hlt k hk).1)) r2
end Wb

namespace Wb
open Go Go.RowKit
theorem run_enter {P : Program} {f : FuncId} {fn : Func} {c : Code} (hf : P.funcs[f]? = some fn) (hname : (fn.name == "runtime.NumGoroutine") = false) (hb : fn.body = some c) (args : Array Value) (w : World) :
    (callFunc f args).run P w = .ok (.enter f args) w := by
  have h1 : fn.name ≠ "runtime.NumGoroutine" := by simpa using hname
  simp [callFunc, hf, h1, hb]
theorem step_call {P : Program} {ops : Array Oper} {o : Oper} {a : Act} {w : World} {K : Act → World → Prop} {Q : Exit → Act → World → Prop} {E : Prop} (f : FuncId) (xs : List Operand) (ts : Array TypeId)
    (hg : o.guard = none) (ho : o.op = .call { callee := .value (.func f), args := xs.toArray, argTypes := ts }) (args : Array Value) (ha : (xs.map a.eval).toArray = args)
    (hb : ∃ fn c, P.funcs[f]? = some fn ∧ (fn.name == "runtime.NumGoroutine") = false ∧ fn.body = some c) {R : Ending → World → Prop}
    (h : Calls P f args w R) (hK : ∀ e w', R e w' → ∃ v, e = .returned v ∧ K (a.put o.dst v) w') :
    if Region.wanted o (yielded ops a.tmps) = true then Oper.wp P o a w K Q else E := by
  have hw : Region.wanted o (yielded ops a.tmps) = true := by simp [Region.wanted, hg]
  rw [if_pos hw]
  subst ha
  obtain ⟨fn, c, h1, h2, h3⟩ := hb
  have hr : (execOp a.eval o).run P w = .ok (.enter f (xs.map a.eval).toArray) w := by
    unfold execOp
    simp [ho, resolve, invoke, Deferred.ofValue, Act.eval, run_enter h1 h2 h3]
  unfold Oper.wp
  rw [hr, Oper.upon_enter]
  exact h.mono fun e w' hr => by obtain ⟨v, rfl, hk⟩ := hK e w' hr; exact hk
/-- A block that is known whole reads as a list. -/
theorem RL.ofBlk {α : Type} {f : α → List Value} {w : World} {g : Nat} {e : TypeId} (ys : List α) (hb : Blk w g (ys.flatMap f).toArray e) (hn : ys.length ≤ maxLen) : RL f w (.slice (some ⟨g, 0, none⟩) ys.length ys.length) ys := by
  refine ⟨_, _, rfl, Nat.le_refl _, hn, .inr ⟨_, _, rfl, fun j u hj => ?_⟩⟩
  rw [Nat.zero_add, hb.cell]
  simpa using hj
theorem len1 {α : Type} (l : List α) (x : α) : (l ++ [x]).length = l.length + 1 := by simp
/-- 'append(s, y)' in a region that draws: s owned, y in a row of its own. -/
theorem step_push {α : Type} {f : α → List Value} {P : Program} {ops : Array Oper} {o : Oper} {a : Act} {w : World} {K : Act → World → Prop} {Q : Exit → Act → World → Prop} {E : Prop}
    (hg : o.guard = none) (s x : Operand) (t : TypeId) (ho : o.op = .call { callee := .builtin .append, args := #[s, x], argTypes := #[t, t] })
    (base : Nat) (e : TypeId) (c bytes : Nat) (hF : Flat f c) (hT : Elem P t e c bytes) {v : Value} {l : List α} (hown : Own f base e c w v l) (hs : a.eval s = v)
    (y : α) (g : Nat) {cs : Array Value} (hrow : Blk w g cs e) (hcs : (f y).toArray = cs) (hx : a.eval x = .slice (some ⟨g, 0, none⟩) 1 1) (n : Nat) (hn : l.length = n) (hroom : (n + 1) * bytes ≤ 140737488355328) (h63 : n + 1 ≤ 9223372036854775807) (hbase : base ≤ w.heap.size)
    (hK : ∀ a' cap' w', Own f base e c w' (.slice a' (n + 1) cap') (l ++ [y]) → Below base w w' → w.grownBy w' v.ownBlock → K (a.put o.dst (.slice a' (n + 1) cap')) w') :
    if Region.wanted o (yielded ops a.tmps) = true then Oper.wp P o a w K Q else E := by
  subst hcs hn
  refine step_app hg s x t ho base e c bytes hF hT hown hs [y] (RL.ofBlk (e := e) [y] (by simpa using hrow) (by show 1 ≤ maxLen; decide)) hx hroom (by unfold maxLen; simpa using h63) hbase fun v' w' h1 h2 h3 => ?_
  obtain ⟨a', cap', rfl⟩ := h1.form
  rw [len1] at h1
  have := hK a' cap' w' h1 h2 h3
  rw [len1]
  exact this
/-- 'append(s, y)' in a plain list of operations, the new value written out. -/
theorem wpList_push1 {α : Type} {f : α → List Value} {P : Program} {w : World} {ops : Array Oper} {rest : List Oper} {o : Oper} {a : Act} {Q : Exit → Act → World → Prop} {cs : Array Value} {fr : Nat × Nat} {g : Nat} (hgd : o.guard = none) (s x : Operand) (t : TypeId)
    (ho : o.op = .call { callee := .builtin .append, args := #[s, x], argTypes := #[t, t] })
    (base : Nat) (e : TypeId) (c bytes : Nat) (hF : Flat f c) (hT : Elem P t e c bytes) {v : Value} {l : List α} (hown : Own f base e c w v l) (hs : a.eval s = v)
    (y : α) (hcs : (f y).toArray = cs) (hx : a.eval x = .slice (some ⟨g, 0, none⟩) 1 1) (n : Nat) (hn : l.length = n) (hroom : (n + 1) * bytes ≤ 140737488355328) (h63 : n + 1 ≤ 9223372036854775807) (hbase : base ≤ w.heap.size)
    (h : ∀ a' cap' w', Own f base e c w' (.slice a' (n + 1) cap') (l ++ [y]) → Below base w w' → w.grownBy w' v.ownBlock → wpList P ops Q rest (a.put o.dst (.slice a' (n + 1) cap')) w') (hg : g = w.heap.size := by first | rfl | (simp; done)) : wpList P ops Q (o :: rest) a (w.alloc (.cells cs e fr)) := by
  subst hn
  refine wpList_push hgd s x t ho base e c bytes hF hT hown hs y hcs hx hroom (by unfold maxLen; exact h63) hbase (fun v' w' h1 h2 h3 => ?_) hg
  obtain ⟨a', cap', rfl⟩ := h1.form
  rw [len1] at h1 ⊢
  exact h a' cap' w' h1 h2 h3
theorem own_new {α : Type} {f : α → List Value} {base : Nat} {e : TypeId} {c : Nat} {w : World} {v : Value} {l : List α} (h : Own f base e c w v l) (g : Nat) (hg : w.heap.size ≤ g) : some g ≠ v.ownBlock := fun hh => by
  have := (World.ownsRow.lt h g hh.symm).2
  omega
theorem Own.setOther {α : Type} {f : α → List Value} {base : Nat} {e : TypeId} {c : Nat} {w : World} {v : Value} {l : List α} (h : Own f base e c w v l) (p : Addr) (hne : ∀ g, v.ownBlock = some g → g ≠ p.block) (u : Value) : Own f base e c (w.setCell p u) v l := by
  obtain ⟨h1, h2⟩ := h
  refine ⟨h1, h2.imp id fun ⟨g, cap, cur, a, b, hg, r⟩ => ⟨g, cap, cur, a, b, ?_, r⟩⟩
  rw [Below.heap_setCell w p u g (hne g (by rw [a]; rfl))]; exact hg
/-- A store into a block of another type. -/
theorem Own.setBlk {α : Type} {f : α → List Value} {base : Nat} {e : TypeId} {c : Nat} {w : World} {v : Value} {l : List α} (h : Own f base e c w v l) {b : Nat} {cs : Array Value} {t : TypeId} (hb : Blk w b cs t) (hne : e ≠ t) (i : Nat) (u : Value) : Own f base e c (w.setCell ⟨b, i, none⟩ u) v l := by
  obtain ⟨h1, h2⟩ := h
  refine ⟨h1, h2.imp id fun ⟨g, cap, cur, a, b', hg, r⟩ => ⟨g, cap, cur, a, b', ?_, r⟩⟩
  have hgb : g ≠ b := fun hh => by
    subst hh
    unfold Blk at hb
    rw [hg] at hb
    simp only [Option.some.injEq, Obj.cells.injEq] at hb
    exact hne hb.2.1
  rw [Below.heap_setCell w ⟨b, i, none⟩ u g hgb]; exact hg
/-- One step more, where only new blocks are written. -/
theorem bgo {a b c : World} (h : Below a.heap.size a b) (h2 : Below b.heap.size b c) : Below a.heap.size a c := h.trans (h2.mono h.size)
theorem bal {a b : World} (h : Below a.heap.size a b) (o : Obj) : Below a.heap.size a (b.alloc o) := h.alloc h.size o
theorem b0 (a : World) : Below a.heap.size a a := Below.refl _ _
/-- What a region that only lays new blocks holds on to. -/
theorem held0 (w : World) : Below w.heap.size w w.drew ∧ ∀ b o, b < w.heap.size → w.drew.cell? ⟨b, o, none⟩ = w.cell? ⟨b, o, none⟩ := ⟨(b0 w).drew, fun _ _ _ => rfl⟩
theorem heldB {a b c : World} (h : Below a.heap.size a b ∧ ∀ k o, k < a.heap.size → b.cell? ⟨k, o, none⟩ = a.cell? ⟨k, o, none⟩) (hb : Below b.heap.size b c) : Below a.heap.size a c ∧ ∀ k o, k < a.heap.size → c.cell? ⟨k, o, none⟩ = a.cell? ⟨k, o, none⟩ :=
  ⟨bgo h.1 hb, fun k o hk => (bgo h.1 hb).cell (p := ⟨k, o, none⟩) hk⟩
theorem heldA {a b : World} (h : Below a.heap.size a b ∧ ∀ k o, k < a.heap.size → b.cell? ⟨k, o, none⟩ = a.cell? ⟨k, o, none⟩) (x : Obj) : Below a.heap.size a (b.alloc x) ∧ ∀ k o, k < a.heap.size → (b.alloc x).cell? ⟨k, o, none⟩ = a.cell? ⟨k, o, none⟩ :=
  ⟨bal h.1 x, fun k o hk => (bal h.1 x).cell (p := ⟨k, o, none⟩) hk⟩
theorem Own.drew {α : Type} {f : α → List Value} {base : Nat} {e : TypeId} {c : Nat} {w : World} {v : Value} {l : List α} (h : Own f base e c w v l) : Own f base e c w.drew v l := h
theorem RL.drew {α : Type} {f : α → List Value} {w : World} {v : Value} {l : List α} (h : RL f w v l) : RL f w.drew v l := h
end Wb

namespace Wb
open Go Go.RowKit
set_option linter.unusedVariables false
set_option linter.unusedSimpArgs false
section
variable {P : Program}
/-- copy of elements of c cells. -/
theorem run_copy_c (w : World) (dT sT ty elem : TypeId) (c : Nat) (b o dLen dCap : Nat) (a : Addr) (sLen sCap : Nat) (cs : List Value)
    (hu : P.underlying dT = some (.slice elem)) (hs : (P.info? elem).map (·.size) = some c) (hn : cs.length = Nat.min sLen dLen * c)
    (hsrc : ∀ j v, cs[j]? = some v → w.cell? (a.add j) = some v) (hc : ∀ j, j < cs.length → (w.cell? ⟨b, o + j, none⟩).isSome = true) (hf : ∀ j, j < cs.length → w.frozen? ⟨b, o + j, none⟩ = false) (h1 : ∀ v ∈ cs, v.oneCell' = true) :
    (Builtin.copy_ #[dT, sT] ty #[.slice (some ⟨b, o, none⟩) dLen dCap, .slice (some a) sLen sCap]).run P w = .ok (goInt (Nat.min sLen dLen : Nat)) (w.setCells b o cs) := by
  have hl := run_loadCells_list (P := P) w a cs hsrc
  have hst := run_storeCells_cells (P := P) b o cs 0 w (by simpa using hc) (by simpa using hf) h1
  rw [Nat.add_zero] at hst
  cases hq : P.info? elem with
  | none => simp [hq] at hs
  | some i =>
    have hi : i.size = c := by simpa [hq] using hs
    simp [Builtin.copy_, run_underlying hu, Builtin.lenOf, Builtin.firstCells, Go.sizeOf, typeInfo, hq, hi, ← hn, hl, hst]
/-- clear of elements of c cells: the cells zs. -/
theorem run_clear_c (w : World) (t e ty : TypeId) (z : Value) (ht : P.underlying t = some (.slice e)) (hv : ∀ w, (zeroValue e).run P w = .ok z w) (h1 : ∀ u ∈ z.cells, u.oneCell' = true) (h0 : 0 < z.cells.size) (b o n c : Nat) (hn : 0 < n)
    (hc : ∀ j, j < n * z.cells.size → (w.cell? ⟨b, o + j, none⟩).isSome = true) (hf : ∀ j, j < n * z.cells.size → w.frozen? ⟨b, o + j, none⟩ = false) :
    (Builtin.clear_ #[t] ty #[.slice (some ⟨b, o, none⟩) n c]).run P w = .ok (.tuple #[]) (w.setCells b o (Builtin.zeroCells z.cells n).toList) := by
  have hl : (Builtin.zeroCells z.cells n).toList.length = n * z.cells.size := by rw [Array.length_toList, size_zeroCells]
  have hst := run_storeCells_cells (P := P) b o (Builtin.zeroCells z.cells n).toList 0 w (by rw [hl]; simpa using hc) (by rw [hl]; simpa using hf) (by
    intro v hv'
    simp only [Builtin.zeroCells, Array.toList_map, List.mem_map] at hv'
    obtain ⟨i, _, rfl⟩ := hv'
    have hlt : i % z.cells.size < z.cells.size := Nat.mod_lt _ h0
    rw [getElem!_pos z.cells _ hlt]
    exact h1 _ (Array.getElem_mem hlt))
  simp only [Nat.add_zero] at hst
  obtain ⟨m, rfl⟩ : ∃ m, n = m + 1 := ⟨n - 1, by omega⟩
  simp [Builtin.clear_, run_underlying ht, hv, hst]
end
theorem Blk.sets {t : TypeId} {b : Nat} : ∀ (vs : List Value) (o : Nat) (w : World) (cur : Array Value), Blk w b cur t → o + vs.length ≤ cur.size → Blk (w.setCells b o vs) b (cur.toList.take o ++ vs ++ cur.toList.drop (o + vs.length)).toArray t
  | [], o, w, cur, h, _ => by simpa [World.setCells] using h
  | v :: r, o, w, cur, h, hl => by
    have h2 := Blk.sets r (o + 1) (w.setCell ⟨b, o, none⟩ v) _ (h.set o v) (by simp at hl ⊢; omega)
    have e := list_seg_step cur.toList o v r (by simp at hl ⊢; omega)
    rw [World.setCells]
    rw [Array.toList_setIfInBounds] at h2
    rw [e] at h2
    exact h2
theorem Below.sets {B : Nat} {w : World} (b : Nat) (hb : B ≤ b) : ∀ (vs : List Value) (o : Nat) (w' : World), Below B w w' → Below B w (w'.setCells b o vs)
  | [], _, _, h => h
  | v :: r, o, w', h => Below.sets b hb r (o + 1) _ (h.setCell hb v)
theorem Blk.sets_other {t : TypeId} {b g : Nat} {cur : Array Value} (hne : g ≠ b) : ∀ (vs : List Value) (o : Nat) (w : World), Blk w g cur t → Blk (w.setCells b o vs) g cur t
  | [], _, _, h => h
  | v :: r, o, w, h => Blk.sets_other hne r (o + 1) _ (h.set_other _ v hne)
theorem size_sets (b : Nat) : ∀ (vs : List Value) (o : Nat) (w : World), (w.setCells b o vs).heap.size = w.heap.size
  | [], _, _ => rfl
  | v :: r, o, w => by rw [World.setCells, size_sets b r]; simp
/-- Two pieces laid side by side. -/
theorem seg2 {α : Type} (L : List α) (a : Nat) (X D : List α) (h : a + X.length + D.length ≤ L.length) :
    (L.take (a + X.length) ++ D ++ L.drop (a + X.length + D.length)).take a ++ X ++ (L.take (a + X.length) ++ D ++ L.drop (a + X.length + D.length)).drop (a + X.length) = L.take a ++ X ++ D ++ L.drop (a + X.length + D.length) := by
  have h1 : (L.take (a + X.length)).length = a + X.length := by rw [List.length_take]; omega
  rw [List.append_assoc (L.take (a + X.length)), List.take_append_of_le_length (by omega), List.take_take, Nat.min_eq_left (by omega), List.drop_append_of_le_length (by omega), List.drop_of_length_le (by omega)]
  simp
theorem seg3 {α : Type} (L : List α) (a : Nat) (X D : List α) (h : a + X.length + D.length ≤ L.length) :
    (L.take a ++ X ++ L.drop (a + X.length)).take (a + X.length) ++ D ++ (L.take a ++ X ++ L.drop (a + X.length)).drop (a + X.length + D.length) = L.take a ++ X ++ D ++ L.drop (a + X.length + D.length) := by
  have h1 : (L.take a ++ X).length = a + X.length := by rw [List.length_append, List.length_take]; omega
  rw [List.take_append_of_le_length (by omega), List.take_of_length_le (by omega)]
  have h2 : (L.take a ++ X ++ L.drop (a + X.length)).drop (a + X.length + D.length) = L.drop (a + X.length + D.length) := by
    rw [List.drop_append, List.drop_of_length_le (by omega), List.nil_append, h1, List.drop_drop]
    congr 1
    omega
  rw [h2]
section
variable {α : Type} {f : α → List Value} {base : Nat} {e : TypeId} {c : Nat} {w w' : World} {v : Value} {l : List α}
theorem Own.ofRow {g cap : Nat} {cur : Array Value} (hF : Flat f c) (hb : base ≤ g) (hk : Blk w g cur e) (hn : l.length ≤ cap) (hc : cap ≤ maxLen) (hs : cur.size = cap * c) (ht : cur.toList.take (l.length * c) = l.flatMap f) : Own f base e c w (.slice (some ⟨g, 0, none⟩) l.length cap) l :=
  ⟨flat_len hF.len l, .inr ⟨g, cap, cur, rfl, hb, hk, hn, hc, hs, ht⟩⟩
theorem Own.row (h : Own f base e c w v l) (h0 : 0 < l.length) : ∃ g cap cur, v = .slice (some ⟨g, 0, none⟩) l.length cap ∧ base ≤ g ∧ Blk w g cur e ∧ l.length ≤ cap ∧ cap ≤ maxLen ∧ cur.size = cap * c ∧ cur.toList.take (l.length * c) = l.flatMap f := by
  obtain ⟨h1, h2⟩ := h
  rcases h2 with ⟨rfl, h3⟩ | ⟨g, cap, cur, rfl, hb, hg, hn, hc, hs, ht⟩
  · omega
  · exact ⟨g, cap, cur, rfl, hb, hg, hn, hc, hs, ht⟩
/-- A list that is owned, or nothing, wherever it lies. -/
def OwnE (f : α → List Value) (base : Nat) (e : TypeId) (c : Nat) (w : World) (v : Value) (l : List α) : Prop := Own f base e c w v l ∨ (l = [] ∧ ∃ a, v = .slice a 0 0)
theorem OwnE.reads (h : OwnE f base e c w v l) : RL f w v l := by
  rcases h with h | ⟨rfl, a, rfl⟩
  · exact h.reads
  · exact ⟨a, 0, rfl, Nat.le_refl _, by unfold maxLen; omega, .inl rfl⟩
theorem OwnE.below (h : OwnE f base e c w v l) (hb : Below w.heap.size w w') : OwnE f base e c w' v l := h.imp (fun h => h.below hb) id
theorem OwnE.mono (h : OwnE f base e c w v l) {b2 : Nat} (hb : b2 ≤ base) : OwnE f b2 e c w v l := h.imp (fun h => h.mono hb) id
theorem OwnE.setCell (h : OwnE f base e c w v l) {p : Addr} (hp : p.block < base) (u : Value) : OwnE f base e c (w.setCell p u) v l := h.imp (fun h => h.setCell hp u) id
theorem OwnE.form (h : OwnE f base e c w v l) : ∃ a cap, v = .slice a l.length cap := by
  obtain ⟨a, cap, hv, _, _⟩ := h.reads.form
  exact ⟨a, cap, hv⟩
theorem OwnE.row (h : OwnE f base e c w v l) (h0 : 0 < l.length) : Own f base e c w v l := by
  rcases h with h | ⟨rfl, _⟩
  · exact h
  · simp at h0
theorem Own.belowGrown {v : Value} (h : Own f base e c w v l) (hbase : base ≤ w.heap.size) (hg : w.grownBy w' v.ownBlock) : Below base w w' :=
  (Below.refl base w).grown hg hbase (fun k hk => (World.ownsRow.lt h k hk).1)
/-- append onto what is owned, or nothing. -/
theorem run_appE {P : Program} (w : World) (base : Nat) (t ty e : TypeId) (c bytes : Nat) (hF : Flat f c) (hT : Elem P t e c bytes) (v : Value) (l : List α) (hown : OwnE f base e c w v l)
    (vx : Value) (l2 : List α) (hs : RL f w vx l2) (hroom : (l.length + l2.length) * bytes ≤ 140737488355328) (h63 : l.length + l2.length ≤ maxLen) (hbase : base ≤ w.heap.size) :
    ∃ v' w', (Builtin.append_ #[t, t] ty #[v, vx]).run P w = .ok v' w' ∧ OwnE f base e c w' v' (l ++ l2) ∧ (l ++ l2 ≠ [] → Own f base e c w' v' (l ++ l2)) ∧ Below base w w' := by
  rcases hown with hown | ⟨rfl, a, rfl⟩
  · obtain ⟨v', w', h1, h2, h3⟩ := run_app (P := P) w base t ty e c bytes hF hT v l hown vx l2 hs hroom h63 hbase
    exact ⟨v', w', h1, .inl h2, fun _ => h2, hown.belowGrown hbase h3⟩
  · obtain ⟨ax, cx, rfl, hx1, hx2, hx3⟩ := hs
    obtain ⟨ht, i, z, hi, hz, hsz, hby, hzs⟩ := hT
    cases l2 with
    | nil =>
      refine ⟨.slice a 0 0, w, ?_, .inr ⟨rfl, a, rfl⟩, fun h => absurd rfl h, Below.refl _ _⟩
      cases a <;> cases ax <;> simp [Builtin.append_, run_underlying ht, Go.sizeOf, typeInfo, hi, Builtin.lenOf, Builtin.firstCells, loadCells, loadCellsFrom, storeCells]
    | cons y l2 =>
      rcases hx3 with hx3 | ⟨b, off, rfl, hc⟩
      · exfalso
        have hl := flat_len hF.len (y :: l2)
        have h4 : 0 < (y :: l2).length * c := Nat.mul_pos (by simp) hF.pos
        rw [hx3] at hl; rw [← hl] at h4
        simp at h4
      · have hl := flat_len hF.len (y :: l2)
        simp only [List.length_nil, Nat.zero_add] at hroom h63
        have hsrc : Src P i.size t (.slice (some ⟨b, off, none⟩) (y :: l2).length cx) (y :: l2).length ((y :: l2).flatMap f) w := Src.ofSlice w ht ⟨b, off, none⟩ _ _ _ (by rw [hl, hsz]) (fun j u hj => by rw [Addr.add_lit]; exact hc j u hj) (fun u hu => by obtain ⟨x, _, hx⟩ := List.mem_flatMap.1 hu; exact hF.one x u hx)
        have hold : (Builtin.firstCells i.size 0 (.slice a 0 0)).run P w.drew = .ok ([] : List Value).toArray w.drew := by
          cases a with
          | none => exact run_firstCells_none w.drew _ 0 0 0
          | some a => exact run_firstCells_some w.drew _ 0 a 0 0 [] (by simp) (fun j v hj => by simp at hj)
        have hgt : 0 < 0 + (y :: l2).length := by simp
        have hr := run_append_grow_src w t t ty e i z ht hi hz a 0 0 [] hold _ _ _ hsrc hgt (by unfold maxLen at h63; omega) (by rw [hby]; exact growslice_fits hgt (by simpa using hroom))
        simp only [Nat.zero_add, List.nil_append] at hr hgt ⊢
        have hge := grownCap_ge w (y :: l2).length 0 e
        have hcm := grownCap_le_maxLen w (y :: l2).length 0 e h63
        have ho : Own f base e c (w.drew.alloc (.cells (((y :: l2).flatMap f).toArray ++ Builtin.zeroCells z.cells (grownCap w (y :: l2).length 0 e - (y :: l2).length)) e)) (.slice (some ⟨w.heap.size, 0, none⟩) (y :: l2).length (grownCap w (y :: l2).length 0 e)) (y :: l2) := by
          refine Own.ofRow hF hbase (Blk.new w.drew _ e) hge hcm ?_ ?_
          · rw [Array.size_append, List.size_toArray, size_zeroCells, hl, hzs, ← Nat.add_mul]
            congr 1
            omega
          · rw [Array.toList_append]
            rw [← hl]
            exact List.take_left
        exact ⟨_, _, hr, .inl ho, fun _ => ho, (Below.refl base w).drew.alloc (by simpa using hbase) _⟩
end
end Wb
