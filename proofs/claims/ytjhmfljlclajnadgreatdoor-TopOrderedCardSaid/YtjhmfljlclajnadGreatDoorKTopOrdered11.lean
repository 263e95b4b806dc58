/- Parts of the proof. -/
import Derived.Test.YtjhmfljlclajnadGreatDoorURing
import Derived.Test.YtjhmfljlclajnadGreatDoorKTopOrdered9
set_option linter.unusedVariables false
set_option linter.unusedSimpArgs false
set_option maxRecDepth 100000
set_option maxHeartbeats 40000000
namespace Go.Proofs.YtjhmfljlclajnadGreatDoor
open Go.RowKit Wb
theorem takeE_bad {r : Ring} {n : Int} (h : goodR r = false \/ n < 0) : takeE r n = 2 := by unfold takeE; rw [if_pos h]
theorem takeE_full {r : Ring} {n : Int} (h : ¬ (goodR r = false \/ n < 0)) (h2 : n > 24 - r.used) : takeE r n = 6 := by unfold takeE; rw [if_neg h, if_pos h2]
theorem takeE_ok {r : Ring} {n : Int} (h : ¬ (goodR r = false \/ n < 0)) (h2 : ¬ n > 24 - r.used) : takeE r n = 0 := by unfold takeE; rw [if_neg h, if_neg h2]
theorem takeR_bad {r : Ring} {n : Int} (h : takeE r n ≠ 0) : takeR r n = r := by unfold takeR; rw [if_neg h]
theorem takeL_bad {r : Ring} {n : Int} (h : takeE r n ≠ 0) : takeL r n = [] := by unfold takeL; rw [if_neg h]
theorem takeR_ok {r : Ring} {n : Int} (h : takeE r n = 0) : takeR r n = ⟨(r.head + n) % 24, r.used + n⟩ := by unfold takeR; rw [if_pos h]
theorem takeL_ok {r : Ring} {n : Int} (h : takeE r n = 0) : takeL r n = places r.head n.toNat := by unfold takeL; rw [if_pos h]
theorem ring_Take (r : Ring) (n : Int) (w : World) :
    Calls Tryz.prog 82 #[r.val, .int .i64 n] w fun e w' =>
      ∃ v, e = .returned (.tuple #[(takeR r n).val, v, .int .i64 (takeE r n)]) /\ Wb.Own intC w.heap.size 3 1 w' v (takeL r n) /\ Below w.heap.size w w' := by
 obtain ⟨p, u⟩ := r
 have hG := fun w => ring_Good ⟨p, u⟩ w
 have hgi := goodR_iff ⟨p, u⟩
 by_cases hb : goodR ⟨p, u⟩ = false \/ n < 0
 ·rw [takeR_bad (by rw [takeE_bad hb]; decide), takeL_bad (by rw [takeE_bad hb]; decide), takeE_bad hb]
  clear hgi
  generalize goodR ⟨p, u⟩ = g at *
  replace hG := hid hG
  unfold Ring.val at *
  dsimp only at *
  cases g
  ·clear hb
   go_enter Tryz.func82, Tryz.ntmps82
   go_wp2_with (go_at_call 79; refine (hG.out _).mono ?_; rintro e w1 ⟨rfl, hb1⟩; obtain ⟨hbc, hbf⟩ := bcell hb1; have hbz := hb1.size; try simp only [World.size_alloc, World.size_setCell, World.size_drew] at hbz; have hz0 := Nat.lt_of_lt_of_le (n := w.heap.size) (by omega) hbz; have hz1 := Nat.lt_of_lt_of_le (n := w.heap.size + 1) (by omega) hbz)
   exact bodyPost_ret (v := .tuple #[.agg #[.int .i64 p, .int .i64 u], .slice none 0 0, .int .i64 2]) (by simp [results, Tryz.results82, go_sem, hbc]) rfl ⟨_, rfl, Own.nil _ _ _ _ _, by exact Zlo⟩
  ·replace hb : n < 0 := by simpa using hb
   go_enter Tryz.func82, Tryz.ntmps82
   go_wp2_with (go_at_call 79; refine (hG.out _).mono ?_; rintro e w1 ⟨rfl, hb1⟩; obtain ⟨hbc, hbf⟩ := bcell hb1; have hbz := hb1.size; try simp only [World.size_alloc, World.size_setCell, World.size_drew] at hbz; have hz0 := Nat.lt_of_lt_of_le (n := w.heap.size) (by omega) hbz; have hz1 := Nat.lt_of_lt_of_le (n := w.heap.size + 1) (by omega) hbz)
   exact bodyPost_ret (v := .tuple #[.agg #[.int .i64 p, .int .i64 u], .slice none 0 0, .int .i64 2]) (by simp [results, Tryz.results82, go_sem, hbc]) rfl ⟨_, rfl, Own.nil _ _ _ _ _, by exact Zlo⟩
 ·obtain ⟨hg, hn⟩ : goodR ⟨p, u⟩ = true /\ 0 <= n := by simpa using hb
  obtain ⟨g1, g2, g3, g4⟩ := hgi.1 hg
  dsimp only at g1 g2 g3 g4
  rw [hg] at hG
  have hF := fun w => ring_Free ⟨p, u⟩ w g3 g4
  replace hG := hid hG
  replace hF := hid hF
  by_cases hs : n > 24 - u
  ·rw [takeR_bad (by rw [takeE_full hb hs]; decide), takeL_bad (by rw [takeE_full hb hs]; decide), takeE_full hb hs]
   clear hgi hb hg
   unfold Ring.val at *
   dsimp only at *
   go_enter Tryz.func82, Tryz.ntmps82
   go_wp2_with (first | (go_at_call 79; refine (hG.out _).mono ?_; rintro e w1 ⟨rfl, hb1⟩; obtain ⟨hbc, hbf⟩ := bcell hb1; have hbz := hb1.size; try simp only [World.size_alloc, World.size_setCell, World.size_drew] at hbz; have hz0 := Nat.lt_of_lt_of_le (n := w.heap.size) (by omega) hbz; have hz1 := Nat.lt_of_lt_of_le (n := w.heap.size + 1) (by omega) hbz) | (go_at_call 60; refine (hF.out _).mono ?_; rintro e w2 ⟨rfl, hb1⟩; obtain ⟨hbc, hbf⟩ := bcell hb1; have hbz := hb1.size; try simp only [World.size_alloc, World.size_setCell, World.size_drew] at hbz; have hz0 := Nat.lt_of_lt_of_le (n := w.heap.size) (by omega) hbz; have hz1 := Nat.lt_of_lt_of_le (n := w.heap.size + 1) (by omega) hbz))
   exact bodyPost_ret (v := .tuple #[.agg #[.int .i64 p, .int .i64 u], .slice none 0 0, .int .i64 6]) (by simp [results, Tryz.results82, go_sem, *]) rfl ⟨_, rfl, Own.nil _ _ _ _ _, by exact Zlo⟩
  ·rw [takeR_ok (takeE_ok hb hs), takeL_ok (takeE_ok hb hs), takeE_ok hb hs]
   clear hgi hb hg
   unfold Ring.val at *
   dsimp only at *
   go_enter Tryz.func82, Tryz.ntmps82
   go_wp2_with (first | (go_at_call 79; refine (hG.out _).mono ?_; rintro e w1 ⟨rfl, hb1⟩; obtain ⟨hbc, hbf⟩ := bcell hb1; have hbz := hb1.size; try simp only [World.size_alloc, World.size_setCell, World.size_drew] at hbz; have hz0 := Nat.lt_of_lt_of_le (n := w.heap.size) (by omega) hbz; have hz1 := Nat.lt_of_lt_of_le (n := w.heap.size + 1) (by omega) hbz) | (go_at_call 60; refine (hF.out _).mono ?_; rintro e w2 ⟨rfl, hb1⟩; obtain ⟨hbc, hbf⟩ := bcell hb1; have hbz := hb1.size; try simp only [World.size_alloc, World.size_setCell, World.size_drew] at hbz; have hz0 := Nat.lt_of_lt_of_le (n := w.heap.size) (by omega) hbz; have hz1 := Nat.lt_of_lt_of_le (n := w.heap.size + 1) (by omega) hbz))
   have k1 : Blk w2 w.heap.size #[.int .i64 p, .int .i64 u] 34 := (((Blk.new w _ _).alloc _).step (by assumption)).step (by assumption)
   have k2 : Blk w2 (w.heap.size + 1) #[.int .i64 0, .int .i64 0] 34 := ((Blk.newAt (w := w.alloc _) (by simp)).step (by assumption)).step (by assumption)
   have hw2 : Below w.heap.size w w2 := by exact Zlo
   clear hbc hbf
   go_loopw [7, 22] (fun l i wr => ∃ k : Nat, (k : Int) <= n /\ i = .int .i64 k /\ Wb.Own intC (w.heap.size + 2) 3 1 wr l (places p k) /\ Blk wr w.heap.size #[.int .i64 ((p + k) % 24), .int .i64 u] 34 /\ Blk wr (w.heap.size + 1) #[.int .i64 0, .int .i64 0] 34 /\ Below w.heap.size w wr /\ w.heap.size + 1 < wr.heap.size) (fun _ i _ => (n - intOf i).toNat)
   case atStart => exact ⟨0, by omega, rfl, Own.nil _ _ _ _ _, by rw [show (p + ((0 : Nat) : Int)) % 24 = p by omega]; exact k1, k2, hw2, by omega⟩
   case round =>
    obtain ⟨k, hk, rfl, hown, b1, b2, hnx, hz⟩ := hrel
    have hz0 : w.heap.size < wr.heap.size := by omega
    have c0 := b1.cell 0
    have c1 := b1.cell 1
    have f0 := b1.free 0
    have f1 := b1.free 1
    simp only [List.getElem?_toArray, List.getElem?_cons_zero, List.getElem?_cons_succ] at c0 c1
    by_cases hlt : (k : Int) < n
    ·go_wp2_with (at_builtin; (refine wpList_push rfl _ _ _ rfl (w.heap.size + 2) _ 1 8 intC_flat elemInt hown rfl ((p + k) % 24) rfl rfl ?c1 ?c2 ?c3 ?c4))
     case c1 => rw [places_len]; omega
     case c2 => rw [places_len]; unfold maxLen; omega
     case c3 => omega
     case c4 =>
      intro v' w' hown' hbel hgrow
      rw [<- places_succ] at hown'
      have b1' := b1.below hbel (by omega)
      have b2' := b2.below hbel (by omega)
      have hnx' := hnx.trans (hbel.mono (by omega))
      have hz' := hbel.size
      have c0' := b1'.cell 0
      have f0' := b1'.free 0
      simp only [List.getElem?_toArray, List.getElem?_cons_zero, List.getElem?_cons_succ] at c0'
      go_wp2
      go_roundw
      case rel =>
       refine ⟨k + 1, by omega, by go_num, hown'.setCell (by simp) _, ?_, b2'.set_other _ _ (by simp), hnx'.setCell (Nat.le_refl _) _, by simp; omega⟩
       have hbb := b1'.set 0 (.int .i64 ((p + k + 1) % 24))
       rw [show (p + ((k + 1 : Nat) : Int)) = p + k + 1 by omega]
       simpa using hbb
      case measure => simp [intOf]; omega
    ·have c2 := b2.cell 0
     have c3 := b2.cell 1
     have f2 := b2.free 0
     have f3 := b2.free 1
     simp only [List.getElem?_toArray, List.getElem?_cons_zero, List.getElem?_cons_succ] at c2 c3
     go_wp2
     obtain rfl : n = k := by omega
     refine bodyPost_ret (v := .tuple #[.agg #[.int .i64 ((p + k) % 24), .int .i64 (u + k)], u7, .int .i64 0]) (by simp [results, Tryz.results82, go_sem, c0, c1, c2, c3]) rfl ⟨_, rfl, ?_, ?_⟩
     ·rw [Int.toNat_natCast]
      exact (((hown.setCell (by simp) _).setCell (by simp) _).setCell (by simp) _).mono (by omega)
     ·exact Zlo
theorem ring_Give (r : Ring) (n : Int) (w : World) :
    Calls Tryz.prog 56 #[r.val, .int .i64 n] w fun e w' =>
      e = .returned (.tuple #[(giveR r n).val, .int .i64 (giveE r n)]) /\ Below w.heap.size w w' := by
 obtain ⟨p, u⟩ := r
 have hG := fun w => ring_Good ⟨p, u⟩ w
 have hgi := goodR_iff ⟨p, u⟩
 by_cases hb : goodR ⟨p, u⟩ = false \/ n < 0 \/ n > u
 ·have e1 : giveE ⟨p, u⟩ n = 2 := by unfold giveE; rw [if_pos hb]
  have e2 : giveR ⟨p, u⟩ n = ⟨p, u⟩ := by unfold giveR; rw [e1]; rfl
  rw [e1, e2]
  clear hgi e1 e2
  generalize goodR ⟨p, u⟩ = g at *
  replace hG := hid hG
  unfold Ring.val at *
  dsimp only at *
  cases g
  ·clear hb
   go_enter Tryz.func56, Tryz.ntmps56
   go_wp2_with (go_at_call 79; refine (hG.out _).mono ?_; rintro e w1 ⟨rfl, hb1⟩; obtain ⟨hbc, hbf⟩ := bcell hb1; have hbz := hb1.size; try simp only [World.size_alloc, World.size_setCell, World.size_drew] at hbz; have hz0 := Nat.lt_of_lt_of_le (n := w.heap.size) (by omega) hbz; have hz1 := Nat.lt_of_lt_of_le (n := w.heap.size + 1) (by omega) hbz)
   exact bodyPost_ret (v := .tuple #[.agg #[.int .i64 p, .int .i64 u], .int .i64 2]) (by simp [results, Tryz.results56, go_sem, hbc]) rfl ⟨rfl, by exact Zlo⟩
  ·replace hb : n < 0 \/ u < n := by simpa using hb
   by_cases hn : n < 0
   all_goals
    go_enter Tryz.func56, Tryz.ntmps56
    go_wp2_with (go_at_call 79; refine (hG.out _).mono ?_; rintro e w1 ⟨rfl, hb1⟩; obtain ⟨hbc, hbf⟩ := bcell hb1; have hbz := hb1.size; try simp only [World.size_alloc, World.size_setCell, World.size_drew] at hbz; have hz0 := Nat.lt_of_lt_of_le (n := w.heap.size) (by omega) hbz; have hz1 := Nat.lt_of_lt_of_le (n := w.heap.size + 1) (by omega) hbz)
    exact bodyPost_ret (v := .tuple #[.agg #[.int .i64 p, .int .i64 u], .int .i64 2]) (by simp [results, Tryz.results56, go_sem, hbc]) rfl ⟨rfl, by exact Zlo⟩
 ·have e1 : giveE ⟨p, u⟩ n = 0 := by unfold giveE; rw [if_neg hb]
  have e2 : giveR ⟨p, u⟩ n = ⟨p, u - n⟩ := by unfold giveR; rw [e1]; rfl
  rw [e1, e2]
  obtain ⟨hg, hn, hn2⟩ : goodR ⟨p, u⟩ = true /\ 0 <= n /\ n <= u := by simpa using hb
  obtain ⟨g1, g2, g3, g4⟩ := hgi.1 hg
  dsimp only at g1 g2 g3 g4
  rw [hg] at hG
  replace hG := hid hG
  clear hgi hb hg e1 e2
  unfold Ring.val at *
  dsimp only at *
  go_enter Tryz.func56, Tryz.ntmps56
  go_wp2_with ((go_at_call 79; refine (hG.out _).mono ?_; rintro e w1 ⟨rfl, hb1⟩; obtain ⟨hbc, hbf⟩ := bcell hb1; have hbz := hb1.size; try simp only [World.size_alloc, World.size_setCell, World.size_drew] at hbz; have hz0 := Nat.lt_of_lt_of_le (n := w.heap.size) (by omega) hbz; have hz1 := Nat.lt_of_lt_of_le (n := w.heap.size + 1) (by omega) hbz); have c0 : w1.cell? ⟨w.heap.size, 0, none⟩ = some (.int .i64 p) := Blk.cell (((Blk.new w _ _).alloc _).step hb1) 0; have c1 : w1.cell? ⟨w.heap.size, 1, none⟩ = some (.int .i64 u) := Blk.cell (((Blk.new w _ _).alloc _).step hb1) 1; have c2 : w1.cell? ⟨w.heap.size + 1, 0, none⟩ = some (.int .i64 0) := Blk.cell ((Blk.newAt (w := w.alloc _) (by simp)).step hb1) 0; have c3 : w1.cell? ⟨w.heap.size + 1, 1, none⟩ = some (.int .i64 0) := Blk.cell ((Blk.newAt (w := w.alloc _) (by simp)).step hb1) 1; clear hbc)
  exact bodyPost_ret (v := .tuple #[.agg #[.int .i64 p, .int .i64 (u - n)], .int .i64 0]) (by simp [results, Tryz.results56, go_sem, c0, c1, c2, c3, hbf]) rfl ⟨rfl, by exact Zlo⟩
end Go.Proofs.YtjhmfljlclajnadGreatDoor
namespace Wb
open Go Go.RowKit
theorem Blk.c10 {w : World} {g : Nat} {a0 a1 a2 a3 a4 a5 a6 a7 a8 a9 : Value} {T : TypeId} (k : Blk w g #[a0, a1, a2, a3, a4, a5, a6, a7, a8, a9] T) :
    w.cell? ⟨g, 0, none⟩ = some a0 /\ w.cell? ⟨g, 1, none⟩ = some a1 /\ w.cell? ⟨g, 2, none⟩ = some a2 /\ w.cell? ⟨g, 3, none⟩ = some a3 /\ w.cell? ⟨g, 4, none⟩ = some a4 /\ w.cell? ⟨g, 5, none⟩ = some a5 /\ w.cell? ⟨g, 6, none⟩ = some a6 /\ w.cell? ⟨g, 7, none⟩ = some a7 /\ w.cell? ⟨g, 8, none⟩ = some a8 /\ w.cell? ⟨g, 9, none⟩ = some a9 :=
 ⟨k.cell 0, k.cell 1, k.cell 2, k.cell 3, k.cell 4, k.cell 5, k.cell 6, k.cell 7, k.cell 8, k.cell 9⟩
def stepC (l : List Cpy) (k : Nat) : Prop := ∀ (hk : k < l.length), isBlk l[k].block = true /\ l[k].text.size = 32 /\ (∀ (h : 0 < k), l[k - 1].block < l[k].block)
theorem copies_iff (l : List Cpy) : copiesB l = true ↔ ∀ k, k < l.length -> stepC l k := by
 unfold copiesB
 rw [Bool.and_eq_true, rise_iff, List.all_eq_true]
 have hg : ∀ j (hj : j < l.length), (blks l).getD j 0 = l[j].block := fun j hj => by simp [blks, hj]
 have hlen : (blks l).length = l.length := by simp [blks]
 constructor
 ·rintro ⟨h1, h2⟩ k hk hk2
  have := h1 k (by omega)
  unfold riseAt at this
  rw [hg k hk] at this
  refine ⟨decide_eq_true ⟨this.1, this.2.1⟩, of_decide_eq_true (h2 _ (List.getElem_mem hk)), fun h => ?_⟩
  have h3 := this.2.2 h
  rw [hg (k - 1) (by omega)] at h3
  exact h3
 ·intro h
  refine ⟨fun k hk => ?_, fun x hx => ?_⟩
  ·have hk2 : k < l.length := by omega
   obtain ⟨g1, g2, g3⟩ := h k hk2 hk2
   have g1 := of_decide_eq_true g1
   unfold riseAt
   rw [hg k hk2]
   refine ⟨g1.1, g1.2, fun h0 => ?_⟩
   rw [hg (k - 1) (by omega)]
   exact g3 h0
  ·obtain ⟨k, hk, rfl⟩ := List.mem_iff_getElem.1 hx
   exact decide_eq_true (h k hk hk).2.1
theorem copies_bad {l : List Cpy} {k : Nat} (hk : k < l.length) (h : ¬ stepC l k) : copiesB l = false := by
 rw [<- Bool.not_eq_true, copies_iff]
 exact fun hh => h (hh k hk)
def hndC (h : Hnd) : List Value := [.bool h.on, .int .i64 h.left]
end Wb
namespace Go.Proofs.YtjhmfljlclajnadGreatDoor
open Go.RowKit Wb
theorem txn_handle (b : Int) (w : World) : Calls Tryz.prog 89 #[.int .i64 b] w fun e w' => e = .returned (.bool (isHnd b)) /\ w = w' := by
 by_cases h0 : 0 <= b
 ·by_cases h1 : b < 3
  ·have hv : isHnd b = true := decide_eq_true ⟨h0, h1⟩
   rw [hv]
   go_enter Tryz.func89, Tryz.ntmps89
   go_wp2
   go_ret
   exact ⟨rfl, rfl⟩
  ·have hv : isHnd b = false := decide_eq_false fun hh => h1 hh.2
   rw [hv]
   go_enter Tryz.func89, Tryz.ntmps89
   go_wp2
   go_ret
   exact ⟨rfl, rfl⟩
 ·have hv : isHnd b = false := decide_eq_false fun hh => h0 hh.1
  rw [hv]
  go_enter Tryz.func89, Tryz.ntmps89
  go_wp2
  go_ret
  exact ⟨rfl, rfl⟩
theorem txn_copies (l : List Cpy) (v : Value) (w : World) (h : RL cpyC w v l) (hl : l.length <= 5864062014805) :
    Calls Tryz.prog 108 #[v] w fun e w' => e = .returned (.bool (copiesB l)) /\ Below w.heap.size w w' := by
 obtain ⟨a, cap, rfl, _⟩ := h.form
 have hci := copies_iff l
 have hno := fun k hk hh => copies_bad (l := l) (k := k) hk hh
 have hB := fun b w => txn_block b w
 generalize copiesB l = cb at *
 replace h := hid h; replace hci := hid hci; replace hno := hid hno; replace hB := hid hB
 go_enter Tryz.func108, Tryz.ntmps108
 go_wp2
 go_loopw [3, 4, 7] (fun _ _ i wr => ∃ k : Nat, k <= l.length /\ i = .int .i64 k /\ Hid (∀ j, j < k -> stepC l j) /\ Below w.heap.size w wr) (fun _ _ i _ => l.length - (intOf i).toNat)
 case atStart => exact ⟨0, Nat.zero_le _, rfl, hid (fun j hj => absurd hj (Nat.not_lt_zero j)), b0 w⟩
 case round =>
  obtain ⟨k, hk, rfl, hall, nx⟩ := hrel
  by_cases hlt : k < l.length
  ·obtain ⟨b1, o1, rfl, d0, d1⟩ := RL.at2 (fun x => .int .i64 x.block) (fun x => .string x.text) (fun _ => rfl) (h.out.below nx) hlt
   have hsk := hid (show isBlk l[k].block = true -> l[k].text.size = 32 -> (∀ (h : 0 < k), l[k - 1].block < l[k].block) -> ∀ j, j < k + 1 -> stepC l j from fun h1 h2 h3 j hj => by
    by_cases e : j = k
    ·subst e; exact fun _ => ⟨h1, h2, h3⟩
    ·exact hall.out j (by omega))
   have hnk := hid (show ¬ (isBlk l[k].block = true /\ l[k].text.size = 32 /\ (∀ (h : 0 < k), l[k - 1].block < l[k].block)) -> cb = false from fun h => hno.out k hlt (fun hh => h (hh hlt)))
   have hBk := hB.out l[k].block
   by_cases hb : isBlk l[k].block = true
   ·rw [hb] at hBk
    by_cases hs : l[k].text.size = 32
    ·have hs2 : ((l[k].text.size : Int) != 32) = false := by rw [hs]; rfl
     rcases Nat.eq_zero_or_pos k with hk0 | hk0
     ·subst hk0
      have hs3 := hid (hsk.out hb hs (fun h => absurd h (Nat.lt_irrefl 0)))
      simp only [Nat.zero_mul, Nat.add_zero] at d0 d1
      clear hsk hnk hs hb hall
      replace hBk := hid hBk
      generalize l[0] = x at *
      obtain ⟨xb, xt⟩ := x
      dsimp only at *
      have kx := Blk.new wr #[.int .i64 xb, .string xt] 63
      have x0 := kx.cell 0; have x1 := kx.cell 1
      simp only [Zga, Zgb, Zgc] at x0 x1
      go_wp2
      refine wp_region_below (by kernel_rfl) (by kernel_rfl) ?_
      repeat (go_big_quiet_step ((go_at_call 109; exact BW.call_same (hBk.out _))))
      refine wpQuiet_nil ?_
      intro _ hw'
      obtain ⟨⟨wq, hq⟩, rfl⟩ := hw'
      go_wp2
      go_roundw
      case rel => exact ⟨1, by omega, by go_num, hs3, (bal nx _).trans (hq.mono (by have := nx.size; simp; omega))⟩
      case measure => simp [intOf]; omega
     ·obtain ⟨j, rfl⟩ : ∃ j, k = j + 1 := ⟨k - 1, by omega⟩
      have hlj : j < l.length := by omega
      obtain ⟨b2, off2, hbb, d2, d3⟩ := RL.at2 (fun x => .int .i64 x.block) (fun x => .string x.text) (fun _ => rfl) (h.out.below nx) hlj
      simp only [Option.some.injEq, Addr.mk.injEq] at hbb
      obtain ⟨rfl, rfl, _⟩ := hbb
      have e1 : j + 1 - 1 = j := by omega
      by_cases hlt2 : l[j].block < l[j + 1].block
      ·have hs3 := hid (hsk.out hb hs (fun h => hlt2))
       clear hsk hnk hs hb hall
       replace hBk := hid hBk
       generalize l[j + 1] = x at *
       generalize l[j] = y at *
       obtain ⟨xb, xt⟩ := x
       obtain ⟨yb, yt⟩ := y
       dsimp only at *
       have kx := Blk.new wr #[.int .i64 xb, .string xt] 63
       have x0 := kx.cell 0; have x1 := kx.cell 1
       simp only [Zga, Zgb, Zgc] at x0 x1
       have lt1 := World.block_lt_of_cell? _ _ d2
       dsimp only at lt1
       go_wp2
       refine wp_region_below (by kernel_rfl) (by kernel_rfl) ?_
       repeat (go_big_quiet_step ((go_at_call 109; exact BW.call_same (hBk.out _))))
       refine wpQuiet_nil ?_
       intro _ hw'
       obtain ⟨⟨wq, hq⟩, rfl⟩ := hw'
       go_wp2
       go_roundw
       case rel => exact ⟨j + 1 + 1, by omega, by go_num, hs3, (bal nx _).trans (hq.mono (by have := nx.size; simp; omega))⟩
       case measure => simp [intOf]; omega
      ·have hv := hnk.out (fun hh => hlt2 (hh.2.2 (by omega)))
       subst hv
       clear hsk hnk hs hb hall
       replace hBk := hid hBk
       generalize l[j + 1] = x at *
       generalize l[j] = y at *
       obtain ⟨xb, xt⟩ := x
       obtain ⟨yb, yt⟩ := y
       dsimp only at *
       have kx := Blk.new wr #[.int .i64 xb, .string xt] 63
       have x0 := kx.cell 0; have x1 := kx.cell 1
       simp only [Zga, Zgb, Zgc] at x0 x1
       have lt1 := World.block_lt_of_cell? _ _ d2
       dsimp only at lt1
       go_wp2
       refine wp_region_below (by kernel_rfl) (by kernel_rfl) ?_
       repeat (go_big_quiet_step ((go_at_call 109; exact BW.call_same (hBk.out _))))
       refine wpQuiet_nil ?_
       intro _ hw'
       obtain ⟨⟨wq, hq⟩, rfl⟩ := hw'
       go_wp2
       go_ret
       exact ⟨rfl, (bal nx _).trans (hq.mono (by have := nx.size; simp; omega))⟩
    ·have hv := hnk.out (fun hh => hs hh.2.1)
     subst hv
     have hs2 : ((l[k].text.size : Int) != 32) = true := bne_iff_ne.2 (by omega)
     clear hsk hnk hs hb hall
     replace hBk := hid hBk
     generalize l[k] = x at *
     obtain ⟨xb, xt⟩ := x
     dsimp only at *
     have kx := Blk.new wr #[.int .i64 xb, .string xt] 63
     have x0 := kx.cell 0; have x1 := kx.cell 1
     simp only [Zga, Zgb, Zgc] at x0 x1
     go_wp2
     refine wp_region_below (by kernel_rfl) (by kernel_rfl) ?_
     repeat (go_big_quiet_step ((go_at_call 109; exact BW.call_same (hBk.out _))))
     refine wpQuiet_nil ?_
     intro _ hw'
     obtain ⟨⟨wq, hq⟩, rfl⟩ := hw'
     go_wp2
     go_ret
     exact ⟨rfl, (bal nx _).trans (hq.mono (by have := nx.size; simp; omega))⟩
   ·have hv := hnk.out (fun hh => hb hh.1)
    subst hv
    rw [Bool.not_eq_true] at hb
    rw [hb] at hBk
    clear hsk hnk hb hall
    replace hBk := hid hBk
    generalize l[k] = x at *
    obtain ⟨xb, xt⟩ := x
    dsimp only at *
    have kx := Blk.new wr #[.int .i64 xb, .string xt] 63
    have x0 := kx.cell 0; have x1 := kx.cell 1
    simp only [Zga, Zgb, Zgc] at x0 x1
    go_wp2
    refine wp_region_below (by kernel_rfl) (by kernel_rfl) ?_
    repeat (go_big_quiet_step ((go_at_call 109; exact BW.call_same (hBk.out _))))
    refine wpQuiet_nil ?_
    intro _ hw'
    obtain ⟨⟨wq, hq⟩, rfl⟩ := hw'
    go_wp2
    go_ret
    exact ⟨rfl, (bal nx _).trans (hq.mono (by have := nx.size; simp; omega))⟩
  ·have hv := hci.out.2 (fun j hj => hall.out j (by omega))
   subst hv
   clear hall
   go_wp2
   go_ret
   exact ⟨rfl, nx⟩
end Go.Proofs.YtjhmfljlclajnadGreatDoor
namespace Wb
open Go Go.RowKit
theorem apart_rev {t : Txn} {k : Nat} (hk : k < t.rev.length) (h : (!hasB t.mt t.rev[k] && !hasB t.dt t.rev[k]) = false) : apart t = false := by
 unfold apart
 rw [all_no (p := fun b => !hasB t.mt b && !hasB t.dt b) hk h]
 rfl
theorem apart_mt {t : Txn} {k : Nat} (hk : k < t.mt.length) (h : (!hasB t.dt t.mt[k].block) = false) : apart t = false := by
 unfold apart
 rw [all_no (p := fun c : Cpy => !hasB t.dt c.block) hk h, Bool.and_false]
theorem apart_yes {t : Txn} (h1 : ∀ k (hk : k < t.rev.length), (!hasB t.mt t.rev[k] && !hasB t.dt t.rev[k]) = true) (h2 : ∀ k (hk : k < t.mt.length), (!hasB t.dt t.mt[k].block) = true) : apart t = true := by
 unfold apart
 rw [Bool.and_eq_true, List.all_eq_true, List.all_eq_true]
 refine ⟨fun x hx => ?_, fun x hx => ?_⟩
 ·obtain ⟨k, hk, rfl⟩ := List.mem_iff_getElem.1 hx
  exact h1 k hk
 ·obtain ⟨k, hk, rfl⟩ := List.mem_iff_getElem.1 hx
  exact h2 k hk
end Wb
namespace Go.Proofs.YtjhmfljlclajnadGreatDoor
open Go.RowKit Wb
theorem idx3 (w : World) (o0 o1 o2 : Bool) (l0 l1 l2 : Int) :
    (Instr.index 41 (.agg #[.bool o0, .int .i64 l0, .bool o1, .int .i64 l1, .bool o2, .int .i64 l2]) (.int .i64 0)).run Tryz.prog w = .ok (.agg #[.bool o0, .int .i64 l0]) w /\
    (Instr.index 41 (.agg #[.bool o0, .int .i64 l0, .bool o1, .int .i64 l1, .bool o2, .int .i64 l2]) (.int .i64 1)).run Tryz.prog w = .ok (.agg #[.bool o1, .int .i64 l1]) w /\
    (Instr.index 41 (.agg #[.bool o0, .int .i64 l0, .bool o1, .int .i64 l1, .bool o2, .int .i64 l2]) (.int .i64 2)).run Tryz.prog w = .ok (.agg #[.bool o2, .int .i64 l2]) w :=
 ⟨by kernel_rfl, by kernel_rfl, by kernel_rfl⟩
theorem txn_Good (t : Txn) (v : Value) (w : World) (h : RTxn w v t) :
    Calls Tryz.prog 80 #[v] w fun e w' => e = .returned (.bool (goodT t)) /\ Below w.heap.size w w' := by
 obtain ⟨vm, vd, vr, rfl, hm, hd, hr, n1, n2, n3⟩ := h
 obtain ⟨am, cm, rfl, _⟩ := hm.form
 obtain ⟨ad, cd, rfl, _⟩ := hd.form
 obtain ⟨ar, cr, rfl, _⟩ := hr.form
 have hng := fun hh => notGood' (t := t) hh
 have hyes := fun h1 h2 h3 h4 h5 h6 h7 h8 => (goodT_iff t).2 ⟨h1, h2, h3, h4, h5, h6, h7, h8⟩
 have hi3 := fun w => idx3 w t.h0.on t.h1.on t.h2.on t.h0.left t.h1.left t.h2.left
 have hCm := fun w' (nx : Below w.heap.size w w') => txn_copies t.mt _ w' (hm.below nx) n1
 have hCd := fun w' (nx : Below w.heap.size w w') => txn_copies t.dt _ w' (hd.below nx) n2
 have har := fun k hk hh => apart_rev (t := t) (k := k) hk hh
 have ham := fun k hk hh => apart_mt (t := t) (k := k) hk hh
 have hay := fun h1 h2 => apart_yes (t := t) h1 h2
 unfold txnV
 generalize goodT t = gT at *
 have k0 := Blk.new w #[.int .i64 t.seq, .slice am t.mt.length cm, .slice ad t.dt.length cd, .slice ar t.rev.length cr, .bool t.h0.on, .int .i64 t.h0.left, .bool t.h1.on, .int .i64 t.h1.left, .bool t.h2.on, .int .i64 t.h2.left] 43
 have nx := bal (b0 w) (.cells #[.int .i64 t.seq, .slice am t.mt.length cm, .slice ad t.dt.length cd, .slice ar t.rev.length cr, .bool t.h0.on, .int .i64 t.h0.left, .bool t.h1.on, .int .i64 t.h1.left, .bool t.h2.on, .int .i64 t.h2.left] 43)
 obtain ⟨e0, e1, e2, e3, e4, e5, e6, e7, e8, e9⟩ := k0.c10; have l0 := k0.lt
 replace hm := hid hm; replace hd := hid hd; replace hr := hid hr; replace hng := hid hng; replace hyes := hid hyes; replace hi3 := hid hi3; replace har := hid har; replace ham := hid ham; replace hay := hid hay
 have COPM := hid hCm; have COPD := hid hCd
 clear hCm hCd
 by_cases hs1 : t.seq < 1
 ·have hv := hid (hng.out (.inl (decide_eq_false (by omega))))
  go_enter Tryz.func80, Tryz.ntmps80
  go_wp2
  go_ret
  exact ⟨ret_b hv.out.symm, nx⟩
 by_cases hs2 : 2147483647 < t.seq
 ·have hv := hid (hng.out (.inl (decide_eq_false (by omega))))
  go_enter Tryz.func80, Tryz.ntmps80
  go_wp2
  go_ret
  exact ⟨ret_b hv.out.symm, nx⟩
 have hsq : seqOk t.seq = true := decide_eq_true (by omega)
 cases hcm : copiesB t.mt with
 | false =>
  have hv := hid (hng.out (.inr (.inl hcm)))
  have C1 := COPM.out _ nx
  rw [hcm] at C1
  replace C1 := hid C1
  clear hcm
  go_enter Tryz.func80, Tryz.ntmps80
  go_wp2_with (go_at_call_of 108 (Value.slice am t.mt.length cm); ((with_reducible refine C1.out.mono ?_); rintro e w1 ⟨rfl, hb1⟩; replace nx := bgo nx hb1))
  go_ret
  exact ⟨ret_b hv.out.symm, nx⟩
 | true =>
 have C1 := COPM.out _ nx
 rw [hcm] at C1
 cases hcd : copiesB t.dt with
 | false =>
  have hv := hid (hng.out (.inr (.inr (.inl hcd))))
  have C2 := fun w' nx => COPD.out w' nx
  rw [hcd] at C2
  replace C1 := hid C1; replace C2 := hid C2
  clear hcm hcd
  go_enter Tryz.func80, Tryz.ntmps80
  go_wp2_with (go_at_call_of 108 (Value.slice am t.mt.length cm); ((with_reducible refine C1.out.mono ?_); rintro e w1 ⟨rfl, hb1⟩; replace k0 := k0.step hb1; replace nx := bgo nx hb1; clear e0 e1 e2 e3 e4 e5 e6 e7 e8 e9 l0; obtain ⟨e0, e1, e2, e3, e4, e5, e6, e7, e8, e9⟩ := k0.c10; have l0 := k0.lt))
  go_wp2_with (go_at_call_of 108 (Value.slice ad t.dt.length cd); ((with_reducible refine (C2.out _ nx).mono ?_); rintro e w1 ⟨rfl, hb1⟩; replace nx := bgo nx hb1))
  go_ret
  exact ⟨ret_b hv.out.symm, nx⟩
 | true =>
 have C2 := fun w' nx => COPD.out w' nx
 rw [hcd] at C2
 replace C1 := hid C1; replace C2 := hid C2
 have hcm' := hid hcm; have hcd' := hid hcd
 have hcm : rise (blks t.mt) = true := by unfold copiesB at hcm; rw [Bool.and_eq_true] at hcm; exact hcm.1
 have hcd : rise (blks t.dt) = true := by unfold copiesB at hcd; rw [Bool.and_eq_true] at hcd; exact hcd.1
 replace hcm := hid hcm; replace hcd := hid hcd; replace hsq := hid hsq
 clear COPM COPD
 go_enter Tryz.func80, Tryz.ntmps80
 go_wp2_with (go_at_call_of 108 (Value.slice am t.mt.length cm); ((with_reducible refine C1.out.mono ?_); rintro e w1 ⟨rfl, hb1⟩; replace k0 := k0.step hb1; replace nx := bgo nx hb1; clear e0 e1 e2 e3 e4 e5 e6 e7 e8 e9 l0; obtain ⟨e0, e1, e2, e3, e4, e5, e6, e7, e8, e9⟩ := k0.c10; have l0 := k0.lt))
 go_wp2_with (go_at_call_of 108 (Value.slice ad t.dt.length cd); ((with_reducible refine (C2.out _ nx).mono ?_); rintro e w2 ⟨rfl, hb2⟩; replace k0 := k0.step hb2; replace nx := bgo nx hb2; clear e0 e1 e2 e3 e4 e5 e6 e7 e8 e9 l0; obtain ⟨e0, e1, e2, e3, e4, e5, e6, e7, e8, e9⟩ := k0.c10; have l0 := k0.lt))
 clear C1 C2 hb1 hb2
 go_loopw [3, 4, 32] (fun _ _ i wr => ∃ k : Nat, k <= t.rev.length /\ i = .int .i64 k /\ Hid (riseTo t.rev k) /\ Hid (∀ j, j < k -> ∀ (hj : j < t.rev.length), (!hasB t.mt t.rev[j] && !hasB t.dt t.rev[j]) = true) /\ Blk wr w.heap.size #[.int .i64 t.seq, .slice am t.mt.length cm, .slice ad t.dt.length cd, .slice ar t.rev.length cr, .bool t.h0.on, .int .i64 t.h0.left, .bool t.h1.on, .int .i64 t.h1.left, .bool t.h2.on, .int .i64 t.h2.left] 43 /\ Below w.heap.size w wr) (fun _ _ i _ => t.rev.length - (intOf i).toNat)
 case atStart => exact ⟨0, Nat.zero_le _, rfl, hid (fun j hj => absurd hj (Nat.not_lt_zero j)), hid (fun j hj => absurd hj (Nat.not_lt_zero j)), k0, nx⟩
 case round =>
  clear k0 nx e0 e1 e2 e3 e4 e5 e6 e7 e8 e9 l0
  obtain ⟨k, hk, rfl, hri, hap, k0, nx⟩ := hrel
  obtain ⟨e0, e1, e2, e3, e4, e5, e6, e7, e8, e9⟩ := k0.c10; have l0 := k0.lt
  by_cases hlt : k < t.rev.length
  ·obtain ⟨b1, o1, rfl, d0⟩ := RL.at1 (fun x => .int .i64 x) (fun _ => rfl) (hr.out.below nx) hlt
   have hgd : t.rev.getD k 0 = t.rev[k] := by simp [hlt]
   have hno := hid (show ¬ riseAt t.rev k -> gT = false from fun hh => hng.out (.inr (.inr (.inr (.inl (rise_no hlt hh))))))
   have hnA := hid (show (!hasB t.mt t.rev[k] && !hasB t.dt t.rev[k]) = false -> gT = false from fun hh => hng.out (.inr (.inr (.inr (.inr (.inl (har.out k hlt hh)))))))
   have hyA := hid (show (!hasB t.mt t.rev[k] && !hasB t.dt t.rev[k]) = true -> ∀ j, j < k + 1 -> ∀ (hj : j < t.rev.length), (!hasB t.mt t.rev[j] && !hasB t.dt t.rev[j]) = true from fun hh j hj hj2 => by
    by_cases e : j = k
    ·subst e; exact hh
    ·exact hap.out j (by omega) hj2)
   have hBk := txn_block t.rev[k]
   by_cases hb : isBlk t.rev[k] = true
   ·have hb' := of_decide_eq_true hb
    have hBk := fun w => hBk w
    rw [hb] at hBk
    replace hBk := hid hBk
    rcases Nat.eq_zero_or_pos k with hk0 | hk0
    ·subst hk0
     have hr1 := hid (riseTo_succ hri.out (show riseAt t.rev 0 from by unfold riseAt; rw [hgd]; exact ⟨hb'.1, hb'.2, fun h => absurd h (Nat.lt_irrefl 0)⟩))
     simp only [Nat.add_zero] at d0
     clear hno hgd hb hb' hri hap
     generalize t.rev[0] = x at *
     have hMb := hid (fun w' (nx : Below w.heap.size w w') => txn_has t.mt x _ w' hcm.out (hm.out.below nx) n1)
     have hDb := hid (fun w' (nx : Below w.heap.size w w') => txn_has t.dt x _ w' hcd.out (hd.out.below nx) n2)
     by_cases hh1 : hasB t.mt x = true
     ·have hv := hid (hnA.out (by rw [hh1]; rfl))
      have hMb := hid (fun w' nx => by have := hMb.out w' nx; rwa [hh1] at this)
      clear hh1 hDb hnA hyA
      go_wp2_with (go_at_call 109; ((with_reducible refine (hBk.out _).mono ?_); rintro e w1 ⟨rfl, rfl⟩))
      go_wp2_with (go_at_call_of 93 (Value.slice am t.mt.length cm); ((with_reducible refine (hMb.out _ nx).mono ?_); rintro e w2 ⟨rfl, hb2⟩; replace k0 := k0.step hb2; replace nx := bgo nx hb2; clear e0 e1 e2 e3 e4 e5 e6 e7 e8 e9 l0; obtain ⟨e0, e1, e2, e3, e4, e5, e6, e7, e8, e9⟩ := k0.c10; have l0 := k0.lt))
      go_ret
      exact ⟨ret_b hv.out.symm, nx⟩
     ·rw [Bool.not_eq_true] at hh1
      have hMb := hid (fun w' nx => by have := hMb.out w' nx; rwa [hh1] at this)
      by_cases hh2 : hasB t.dt x = true
      ·have hv := hid (hnA.out (by rw [hh1, hh2]; rfl))
       have hDb := hid (fun w' nx => by have := hDb.out w' nx; rwa [hh2] at this)
       clear hh1 hh2 hnA hyA
       go_wp2_with (go_at_call 109; ((with_reducible refine (hBk.out _).mono ?_); rintro e w1 ⟨rfl, rfl⟩))
       go_wp2_with (go_at_call_of 93 (Value.slice am t.mt.length cm); ((with_reducible refine (hMb.out _ nx).mono ?_); rintro e w2 ⟨rfl, hb2⟩; replace k0 := k0.step hb2; replace nx := bgo nx hb2; clear e0 e1 e2 e3 e4 e5 e6 e7 e8 e9 l0; obtain ⟨e0, e1, e2, e3, e4, e5, e6, e7, e8, e9⟩ := k0.c10; have l0 := k0.lt))
       go_wp2_with (go_at_call_of 93 (Value.slice ad t.dt.length cd); ((with_reducible refine (hDb.out _ nx).mono ?_); rintro e w2 ⟨rfl, hb2⟩; replace k0 := k0.step hb2; replace nx := bgo nx hb2; clear e0 e1 e2 e3 e4 e5 e6 e7 e8 e9 l0; obtain ⟨e0, e1, e2, e3, e4, e5, e6, e7, e8, e9⟩ := k0.c10; have l0 := k0.lt))
       go_ret
       exact ⟨ret_b hv.out.symm, nx⟩
      ·rw [Bool.not_eq_true] at hh2
       have hDb := hid (fun w' nx => by have := hDb.out w' nx; rwa [hh2] at this)
       have hy := hid (hyA.out (by rw [hh1, hh2]; rfl))
       clear hh1 hh2 hnA hyA
       go_wp2_with (go_at_call 109; ((with_reducible refine (hBk.out _).mono ?_); rintro e w1 ⟨rfl, rfl⟩))
       go_wp2_with (go_at_call_of 93 (Value.slice am t.mt.length cm); ((with_reducible refine (hMb.out _ nx).mono ?_); rintro e w2 ⟨rfl, hb2⟩; replace k0 := k0.step hb2; replace nx := bgo nx hb2; clear e0 e1 e2 e3 e4 e5 e6 e7 e8 e9 l0; obtain ⟨e0, e1, e2, e3, e4, e5, e6, e7, e8, e9⟩ := k0.c10; have l0 := k0.lt))
       go_wp2_with (go_at_call_of 93 (Value.slice ad t.dt.length cd); ((with_reducible refine (hDb.out _ nx).mono ?_); rintro e w2 ⟨rfl, hb2⟩; replace k0 := k0.step hb2; replace nx := bgo nx hb2; clear e0 e1 e2 e3 e4 e5 e6 e7 e8 e9 l0; obtain ⟨e0, e1, e2, e3, e4, e5, e6, e7, e8, e9⟩ := k0.c10; have l0 := k0.lt))
       go_roundw
       case rel => exact ⟨0 + 1, by omega, by go_num, hr1, hy, k0, nx⟩
       case measure => simp [intOf]; omega
    ·obtain ⟨j, rfl⟩ : ∃ j, k = j + 1 := ⟨k - 1, by omega⟩
     have hlj : j < t.rev.length := by omega
     obtain ⟨b2, off2, hbb, d2⟩ := RL.at1 (fun x => .int .i64 x) (fun _ => rfl) (hr.out.below nx) hlj
     simp only [Option.some.injEq, Addr.mk.injEq] at hbb
     obtain ⟨rfl, rfl, _⟩ := hbb
     have hgj : t.rev.getD j 0 = t.rev[j] := by simp [hlj]
     have hiff : riseAt t.rev (j + 1) ↔ t.rev[j] < t.rev[j + 1] := by
      unfold riseAt
      rw [hgd, Nat.add_sub_cancel, hgj]
      exact ⟨fun h => h.2.2 (by omega), fun h => ⟨hb'.1, hb'.2, fun _ => h⟩⟩
     by_cases hlt2 : t.rev[j] < t.rev[j + 1]
     ·have hr1 := hid (riseTo_succ hri.out (hiff.2 hlt2))
      clear hno hgd hgj hb hb' hri hap hiff
      generalize t.rev[j + 1] = x at *
      generalize t.rev[j] = y at *
      have hMb := hid (fun w' (nx : Below w.heap.size w w') => txn_has t.mt x _ w' hcm.out (hm.out.below nx) n1)
      have hDb := hid (fun w' (nx : Below w.heap.size w w') => txn_has t.dt x _ w' hcd.out (hd.out.below nx) n2)
      by_cases hh1 : hasB t.mt x = true
      ·have hv := hid (hnA.out (by rw [hh1]; rfl))
       have hMb := hid (fun w' nx => by have := hMb.out w' nx; rwa [hh1] at this)
       clear hh1 hDb hnA hyA
       go_wp2_with (go_at_call 109; ((with_reducible refine (hBk.out _).mono ?_); rintro e w1 ⟨rfl, rfl⟩))
       go_wp2_with (go_at_call_of 93 (Value.slice am t.mt.length cm); ((with_reducible refine (hMb.out _ nx).mono ?_); rintro e w2 ⟨rfl, hb2⟩; replace k0 := k0.step hb2; replace nx := bgo nx hb2; clear e0 e1 e2 e3 e4 e5 e6 e7 e8 e9 l0; obtain ⟨e0, e1, e2, e3, e4, e5, e6, e7, e8, e9⟩ := k0.c10; have l0 := k0.lt))
       go_ret
       exact ⟨ret_b hv.out.symm, nx⟩
      ·rw [Bool.not_eq_true] at hh1
       have hMb := hid (fun w' nx => by have := hMb.out w' nx; rwa [hh1] at this)
       by_cases hh2 : hasB t.dt x = true
       ·have hv := hid (hnA.out (by rw [hh1, hh2]; rfl))
        have hDb := hid (fun w' nx => by have := hDb.out w' nx; rwa [hh2] at this)
        clear hh1 hh2 hnA hyA
        go_wp2_with (go_at_call 109; ((with_reducible refine (hBk.out _).mono ?_); rintro e w1 ⟨rfl, rfl⟩))
        go_wp2_with (go_at_call_of 93 (Value.slice am t.mt.length cm); ((with_reducible refine (hMb.out _ nx).mono ?_); rintro e w2 ⟨rfl, hb2⟩; replace k0 := k0.step hb2; replace nx := bgo nx hb2; clear e0 e1 e2 e3 e4 e5 e6 e7 e8 e9 l0; obtain ⟨e0, e1, e2, e3, e4, e5, e6, e7, e8, e9⟩ := k0.c10; have l0 := k0.lt))
        go_wp2_with (go_at_call_of 93 (Value.slice ad t.dt.length cd); ((with_reducible refine (hDb.out _ nx).mono ?_); rintro e w2 ⟨rfl, hb2⟩; replace k0 := k0.step hb2; replace nx := bgo nx hb2; clear e0 e1 e2 e3 e4 e5 e6 e7 e8 e9 l0; obtain ⟨e0, e1, e2, e3, e4, e5, e6, e7, e8, e9⟩ := k0.c10; have l0 := k0.lt))
        go_ret
        exact ⟨ret_b hv.out.symm, nx⟩
       ·rw [Bool.not_eq_true] at hh2
        have hDb := hid (fun w' nx => by have := hDb.out w' nx; rwa [hh2] at this)
        have hy := hid (hyA.out (by rw [hh1, hh2]; rfl))
        clear hh1 hh2 hnA hyA
        go_wp2_with (go_at_call 109; ((with_reducible refine (hBk.out _).mono ?_); rintro e w1 ⟨rfl, rfl⟩))
        go_wp2_with (go_at_call_of 93 (Value.slice am t.mt.length cm); ((with_reducible refine (hMb.out _ nx).mono ?_); rintro e w2 ⟨rfl, hb2⟩; replace k0 := k0.step hb2; replace nx := bgo nx hb2; clear e0 e1 e2 e3 e4 e5 e6 e7 e8 e9 l0; obtain ⟨e0, e1, e2, e3, e4, e5, e6, e7, e8, e9⟩ := k0.c10; have l0 := k0.lt))
        go_wp2_with (go_at_call_of 93 (Value.slice ad t.dt.length cd); ((with_reducible refine (hDb.out _ nx).mono ?_); rintro e w2 ⟨rfl, hb2⟩; replace k0 := k0.step hb2; replace nx := bgo nx hb2; clear e0 e1 e2 e3 e4 e5 e6 e7 e8 e9 l0; obtain ⟨e0, e1, e2, e3, e4, e5, e6, e7, e8, e9⟩ := k0.c10; have l0 := k0.lt))
        go_roundw
        case rel => exact ⟨j + 1 + 1, by omega, by go_num, hr1, hy, k0, nx⟩
        case measure => simp [intOf]; omega
     ·have hv := hid (hno.out (fun hh => hlt2 (hiff.1 hh)))
      clear hno hgd hgj hb hb' hri hap hiff hnA hyA
      generalize t.rev[j + 1] = x at *
      generalize t.rev[j] = y at *
      go_wp2_with (go_at_call 109; ((with_reducible refine (hBk.out _).mono ?_); rintro e w1 ⟨rfl, rfl⟩))
      go_ret
      exact ⟨ret_b hv.out.symm, nx⟩
   ·have hv := hid (hno.out (fun hh => hb (by
      unfold riseAt at hh
      rw [hgd] at hh
      exact decide_eq_true ⟨hh.1, hh.2.1⟩)))
    rw [Bool.not_eq_true] at hb
    have hBk := fun w => hBk w
    rw [hb] at hBk
    replace hBk := hid hBk
    clear hno hgd hb hri hap hnA hyA
    generalize t.rev[k] = x at *
    go_wp2_with (go_at_call 109; ((with_reducible refine (hBk.out _).mono ?_); rintro e w1 ⟨rfl, rfl⟩))
    go_ret
    exact ⟨ret_b hv.out.symm, nx⟩
  ·obtain rfl : k = t.rev.length := by omega
   have hrise := hid ((rise_iff t.rev).2 hri.out)
   have hapr := hid (show ∀ j (hj : j < t.rev.length), (!hasB t.mt t.rev[j] && !hasB t.dt t.rev[j]) = true from fun j hj => hap.out j hj hj)
   clear hri hap
   go_wp2
   go_loopw [6, 70] (fun _ i wr => ∃ k : Nat, k <= t.mt.length /\ i = .int .i64 k /\ Hid (∀ j, j < k -> ∀ (hj : j < t.mt.length), (!hasB t.dt t.mt[j].block) = true) /\ Blk wr w.heap.size #[.int .i64 t.seq, .slice am t.mt.length cm, .slice ad t.dt.length cd, .slice ar t.rev.length cr, .bool t.h0.on, .int .i64 t.h0.left, .bool t.h1.on, .int .i64 t.h1.left, .bool t.h2.on, .int .i64 t.h2.left] 43 /\ Below w.heap.size w wr) (fun _ i _ => t.mt.length - (intOf i).toNat)
   case atStart => exact ⟨0, Nat.zero_le _, rfl, hid (fun j hj => absurd hj (Nat.not_lt_zero j)), k0, nx⟩
   case round =>
    clear k0 nx e0 e1 e2 e3 e4 e5 e6 e7 e8 e9 l0
    obtain ⟨k, hk, rfl, hap, k0, nx⟩ := hrel
    obtain ⟨e0, e1, e2, e3, e4, e5, e6, e7, e8, e9⟩ := k0.c10; have l0 := k0.lt
    by_cases hlt : k < t.mt.length
    ·obtain ⟨b1, o1, rfl, d0, d1⟩ := RL.at2 (fun x => .int .i64 x.block) (fun x => .string x.text) (fun _ => rfl) (hm.out.below nx) hlt
     have hnA := hid (show (!hasB t.dt t.mt[k].block) = false -> gT = false from fun hh => hng.out (.inr (.inr (.inr (.inr (.inl (ham.out k hlt hh)))))))
     have hyA := hid (show (!hasB t.dt t.mt[k].block) = true -> ∀ j, j < k + 1 -> ∀ (hj : j < t.mt.length), (!hasB t.dt t.mt[j].block) = true from fun hh j hj hj2 => by
      by_cases e : j = k
      ·subst e; exact hh
      ·exact hap.out j (by omega) hj2)
     generalize t.mt[k] = c at *
     obtain ⟨x, ct⟩ := c
     dsimp only at *
     have hDb := hid (fun w' (nx : Below w.heap.size w w') => txn_has t.dt x _ w' hcd.out (hd.out.below nx) n2)
     replace k0 := k0.alloc (.cells #[.int .i64 x, .string ct] 63)
     have nx' := nx
     replace nx := bal nx (.cells #[.int .i64 x, .string ct] 63)
     clear e0 e1 e2 e3 e4 e5 e6 e7 e8 e9 l0; obtain ⟨e0, e1, e2, e3, e4, e5, e6, e7, e8, e9⟩ := k0.c10; have l0 := k0.lt
     have kx := Blk.new wr #[.int .i64 x, .string ct] 63
     have x0 := kx.cell 0
     simp only [Zga, Zgb, Zgc] at x0
     by_cases hh2 : hasB t.dt x = true
     ·have hv := hid (hnA.out (by rw [hh2]; rfl))
      have hDb := hid (fun w' nx => by have := hDb.out w' nx; rwa [hh2] at this)
      clear hh2 hnA hyA hap
      go_wp2_with (go_at_call_of 93 (Value.slice ad t.dt.length cd); ((with_reducible refine (hDb.out _ nx).mono ?_); rintro e w2 ⟨rfl, hb2⟩; replace k0 := k0.step hb2; replace nx := bgo nx hb2; clear e0 e1 e2 e3 e4 e5 e6 e7 e8 e9 l0; obtain ⟨e0, e1, e2, e3, e4, e5, e6, e7, e8, e9⟩ := k0.c10; have l0 := k0.lt))
      go_ret
      exact ⟨ret_b hv.out.symm, nx⟩
     ·rw [Bool.not_eq_true] at hh2
      have hDb := hid (fun w' nx => by have := hDb.out w' nx; rwa [hh2] at this)
      have hy := hid (hyA.out (by rw [hh2]; rfl))
      clear hh2 hnA hyA hap
      go_wp2_with (go_at_call_of 93 (Value.slice ad t.dt.length cd); ((with_reducible refine (hDb.out _ nx).mono ?_); rintro e w2 ⟨rfl, hb2⟩; replace k0 := k0.step hb2; replace nx := bgo nx hb2; clear e0 e1 e2 e3 e4 e5 e6 e7 e8 e9 l0; obtain ⟨e0, e1, e2, e3, e4, e5, e6, e7, e8, e9⟩ := k0.c10; have l0 := k0.lt))
      go_roundw
      case rel => first | exact ⟨k + 1, by omega, by go_num, hy, k0, nx⟩ | ((repeat apply Exists.intro); refine ⟨⟨k + 1, by omega, ?_, hy, k0, nx⟩, rfl⟩; go_num)
      case measure => simp [intOf]; omega
    ·obtain rfl : k = t.mt.length := by omega
     have hapm := hid (hay.out hapr.out (fun j hj => hap.out j hj hj))
     clear hap hapr
     go_wp2
     go_loopw [8, 82] (fun _ i wr => ∃ k : Nat, k <= 3 /\ i = .int .i64 k /\ Hid (∀ j, j < k -> (if j = 0 then hOk t.h0 else if j = 1 then hOk t.h1 else hOk t.h2) = true) /\ Blk wr w.heap.size #[.int .i64 t.seq, .slice am t.mt.length cm, .slice ad t.dt.length cd, .slice ar t.rev.length cr, .bool t.h0.on, .int .i64 t.h0.left, .bool t.h1.on, .int .i64 t.h1.left, .bool t.h2.on, .int .i64 t.h2.left] 43 /\ Below w.heap.size w wr) (fun _ i _ => 3 - (intOf i).toNat)
     case atStart => exact ⟨0, by decide, rfl, hid (fun j hj => absurd hj (Nat.not_lt_zero j)), k0, nx⟩
     case round =>
      clear k0 nx e0 e1 e2 e3 e4 e5 e6 e7 e8 e9 l0
      obtain ⟨k, hk, rfl, hall, k0, nx⟩ := hrel
      have l0 := k0.lt
      by_cases hlt : k < 3
      ·obtain (rfl | rfl | rfl) : k = 0 \/ k = 1 \/ k = 2 := by omega
       ·have hi := hi3.out wr
        replace hi := hi.1
        have hof := hOk_iff' t.h0
        have hnh := fun hh => hng.out (.inr (.inr (.inr (.inr (.inr (.inl hh))))))
        generalize t.h0.on = o at *
        generalize hle : t.h0.left = lf at *
        replace hnh := hid hnh; replace hle := hid hle
        by_cases hoo : hOk t.h0 = true
        ·obtain ⟨a1, a2, a3⟩ := hof.1 hoo
         have hoo2 := hid hoo
         have hall2 := hid (show ∀ j, j < 0 + 1 -> (if j = 0 then hOk t.h0 else if j = 1 then hOk t.h1 else hOk t.h2) = true from by
          intro j hj
          by_cases e : j = 0
          ·subst e; exact hoo2.out
          ·exact hall.out j (by omega))
         clear hof hoo
         by_cases hz : lf = 0
         ·subst hz
          cases o
          ·go_wp2
           go_roundw
           case rel => first | exact ⟨0 + 1, by decide, rfl, hall2, k0.alloc _, bal nx _⟩ | ((repeat apply Exists.intro); exact ⟨⟨0 + 1, by decide, rfl, hall2, k0.alloc _, bal nx _⟩, rfl⟩)
           case measure => simp [intOf]
          ·go_wp2
           go_roundw
           case rel => first | exact ⟨0 + 1, by decide, rfl, hall2, k0.alloc _, bal nx _⟩ | ((repeat apply Exists.intro); exact ⟨⟨0 + 1, by decide, rfl, hall2, k0.alloc _, bal nx _⟩, rfl⟩)
           case measure => simp [intOf]
         ·have ho : o = true := a3.resolve_right hz
          have hz2 : 0 < lf := by omega
          subst ho
          clear hz a3
          go_wp2
          go_roundw
          case rel => first | exact ⟨0 + 1, by decide, rfl, hall2, k0.alloc _, bal nx _⟩ | ((repeat apply Exists.intro); exact ⟨⟨0 + 1, by decide, rfl, hall2, k0.alloc _, bal nx _⟩, rfl⟩)
          case measure => simp [intOf]
        ·replace hoo : hOk t.h0 = false := by simpa using hoo
         have hgf := hid (hnh.out hoo)
         have hof2 : ¬ (0 <= lf /\ lf <= 24 /\ (o = true \/ lf = 0)) := fun h => by rw [hof.2 h] at hoo; cases hoo
         clear hof hoo
         by_cases q1 : lf < 0
         ·clear hof2
          go_wp2
          go_ret
          exact ⟨ret_b hgf.out.symm, bal nx _⟩
         ·by_cases q2 : 24 < lf
          ·clear hof2
           go_wp2
           go_ret
           exact ⟨ret_b hgf.out.symm, bal nx _⟩
          ·have q3 : (lf != 0) = true := bne_iff_ne.2 (fun hz => hof2 ⟨by omega, by omega, .inr hz⟩)
           have q4 : o = false := by
            cases o
            ·rfl
            ·exact absurd ⟨by omega, by omega, .inl rfl⟩ hof2
           subst q4
           clear hof2
           go_wp2
           go_ret
           exact ⟨ret_b hgf.out.symm, bal nx _⟩
       ·have hi := hi3.out wr
        replace hi := hi.2.1
        have hof := hOk_iff' t.h1
        have hnh := fun hh => hng.out (.inr (.inr (.inr (.inr (.inr (.inr (.inl hh)))))))
        generalize t.h1.on = o at *
        generalize hle : t.h1.left = lf at *
        replace hnh := hid hnh; replace hle := hid hle
        by_cases hoo : hOk t.h1 = true
        ·obtain ⟨a1, a2, a3⟩ := hof.1 hoo
         have hoo2 := hid hoo
         have hall2 := hid (show ∀ j, j < 1 + 1 -> (if j = 0 then hOk t.h0 else if j = 1 then hOk t.h1 else hOk t.h2) = true from by
          intro j hj
          by_cases e : j = 1
          ·subst e; exact hoo2.out
          ·exact hall.out j (by omega))
         clear hof hoo
         by_cases hz : lf = 0
         ·subst hz
          cases o
          ·go_wp2
           go_roundw
           case rel => first | exact ⟨1 + 1, by decide, rfl, hall2, k0.alloc _, bal nx _⟩ | ((repeat apply Exists.intro); exact ⟨⟨1 + 1, by decide, rfl, hall2, k0.alloc _, bal nx _⟩, rfl⟩)
           case measure => simp [intOf]
          ·go_wp2
           go_roundw
           case rel => first | exact ⟨1 + 1, by decide, rfl, hall2, k0.alloc _, bal nx _⟩ | ((repeat apply Exists.intro); exact ⟨⟨1 + 1, by decide, rfl, hall2, k0.alloc _, bal nx _⟩, rfl⟩)
           case measure => simp [intOf]
         ·have ho : o = true := a3.resolve_right hz
          have hz2 : 0 < lf := by omega
          subst ho
          clear hz a3
          go_wp2
          go_roundw
          case rel => first | exact ⟨1 + 1, by decide, rfl, hall2, k0.alloc _, bal nx _⟩ | ((repeat apply Exists.intro); exact ⟨⟨1 + 1, by decide, rfl, hall2, k0.alloc _, bal nx _⟩, rfl⟩)
          case measure => simp [intOf]
        ·replace hoo : hOk t.h1 = false := by simpa using hoo
         have hgf := hid (hnh.out hoo)
         have hof2 : ¬ (0 <= lf /\ lf <= 24 /\ (o = true \/ lf = 0)) := fun h => by rw [hof.2 h] at hoo; cases hoo
         clear hof hoo
         by_cases q1 : lf < 0
         ·clear hof2
          go_wp2
          go_ret
          exact ⟨ret_b hgf.out.symm, bal nx _⟩
         ·by_cases q2 : 24 < lf
          ·clear hof2
           go_wp2
           go_ret
           exact ⟨ret_b hgf.out.symm, bal nx _⟩
          ·have q3 : (lf != 0) = true := bne_iff_ne.2 (fun hz => hof2 ⟨by omega, by omega, .inr hz⟩)
           have q4 : o = false := by
            cases o
            ·rfl
            ·exact absurd ⟨by omega, by omega, .inl rfl⟩ hof2
           subst q4
           clear hof2
           go_wp2
           go_ret
           exact ⟨ret_b hgf.out.symm, bal nx _⟩
       ·have hi := hi3.out wr
        replace hi := hi.2.2
        have hof := hOk_iff' t.h2
        have hnh := fun hh => hng.out (.inr (.inr (.inr (.inr (.inr (.inr (.inr hh)))))))
        generalize t.h2.on = o at *
        generalize hle : t.h2.left = lf at *
        replace hnh := hid hnh; replace hle := hid hle
        by_cases hoo : hOk t.h2 = true
        ·obtain ⟨a1, a2, a3⟩ := hof.1 hoo
         have hoo2 := hid hoo
         have hall2 := hid (show ∀ j, j < 2 + 1 -> (if j = 0 then hOk t.h0 else if j = 1 then hOk t.h1 else hOk t.h2) = true from by
          intro j hj
          by_cases e : j = 2
          ·subst e; exact hoo2.out
          ·exact hall.out j (by omega))
         clear hof hoo
         by_cases hz : lf = 0
         ·subst hz
          cases o
          ·go_wp2
           go_roundw
           case rel => first | exact ⟨2 + 1, by decide, rfl, hall2, k0.alloc _, bal nx _⟩ | ((repeat apply Exists.intro); exact ⟨⟨2 + 1, by decide, rfl, hall2, k0.alloc _, bal nx _⟩, rfl⟩)
           case measure => simp [intOf]
          ·go_wp2
           go_roundw
           case rel => first | exact ⟨2 + 1, by decide, rfl, hall2, k0.alloc _, bal nx _⟩ | ((repeat apply Exists.intro); exact ⟨⟨2 + 1, by decide, rfl, hall2, k0.alloc _, bal nx _⟩, rfl⟩)
           case measure => simp [intOf]
         ·have ho : o = true := a3.resolve_right hz
          have hz2 : 0 < lf := by omega
          subst ho
          clear hz a3
          go_wp2
          go_roundw
          case rel => first | exact ⟨2 + 1, by decide, rfl, hall2, k0.alloc _, bal nx _⟩ | ((repeat apply Exists.intro); exact ⟨⟨2 + 1, by decide, rfl, hall2, k0.alloc _, bal nx _⟩, rfl⟩)
          case measure => simp [intOf]
        ·replace hoo : hOk t.h2 = false := by simpa using hoo
         have hgf := hid (hnh.out hoo)
         have hof2 : ¬ (0 <= lf /\ lf <= 24 /\ (o = true \/ lf = 0)) := fun h => by rw [hof.2 h] at hoo; cases hoo
         clear hof hoo
         by_cases q1 : lf < 0
         ·clear hof2
          go_wp2
          go_ret
          exact ⟨ret_b hgf.out.symm, bal nx _⟩
         ·by_cases q2 : 24 < lf
          ·clear hof2
           go_wp2
           go_ret
           exact ⟨ret_b hgf.out.symm, bal nx _⟩
          ·have q3 : (lf != 0) = true := bne_iff_ne.2 (fun hz => hof2 ⟨by omega, by omega, .inr hz⟩)
           have q4 : o = false := by
            cases o
            ·rfl
            ·exact absurd ⟨by omega, by omega, .inl rfl⟩ hof2
           subst q4
           clear hof2
           go_wp2
           go_ret
           exact ⟨ret_b hgf.out.symm, bal nx _⟩
      ·obtain rfl : k = 3 := by omega
       have hv := hid (hyes.out hsq.out hcm'.out hcd'.out hrise.out hapm.out (hall.out 0 (by decide)) (hall.out 1 (by decide)) (hall.out 2 (by decide)))
       clear hall
       go_wp2
       go_ret
       exact ⟨ret_b hv.out.symm, nx⟩
end Go.Proofs.YtjhmfljlclajnadGreatDoor
namespace Wb
open Go Go.RowKit
theorem w64 (x : Int) : RowKit.wrap64 x = IntKind.i64.wrap x := by
 first
  | rfl
  | (unfold RowKit.wrap64; rw [IntKind.wrap_i64])
  | (unfold RowKit.wrap64; simp [IntKind.wrap, IntKind.bits, IntKind.signed])
def askP (t : Txn) : Nat -> Int
 | 0 => ((t.mt.length + t.rev.length : Nat) : Int)
 | 1 => IntKind.i64.wrap (((t.mt.length + t.rev.length : Nat) : Int) + t.h0.left)
 | 2 => IntKind.i64.wrap (IntKind.i64.wrap (((t.mt.length + t.rev.length : Nat) : Int) + t.h0.left) + t.h1.left)
 | _ => askedI t
end Wb
namespace Go.Proofs.YtjhmfljlclajnadGreatDoor
open Go.RowKit Wb
theorem txn_Asked (t : Txn) (v : Value) (w : World) (h : RTxn w v t) :
    Calls Tryz.prog 90 #[v] w fun e w' => e = .returned (.int .i64 (askedI t)) /\ Below w.heap.size w w' := by
 obtain ⟨vm, vd, vr, rfl, hm, hd, hr, n1, n2, n3⟩ := h
 obtain ⟨am, cm, rfl, _⟩ := hm.form
 obtain ⟨ad, cd, rfl, _⟩ := hd.form
 obtain ⟨ar, cr, rfl, _⟩ := hr.form
 have hi3 := fun w => idx3 w t.h0.on t.h1.on t.h2.on t.h0.left t.h1.left t.h2.left
 have h0 : askP t 0 = (t.mt.length : Int) + (t.rev.length : Int) := by show ((t.mt.length + t.rev.length : Nat) : Int) = _; omega
 have h3 : askP t 3 = askedI t := rfl
 have hw : IntKind.i64.wrap ((t.mt.length : Int) + (t.rev.length : Int)) = (t.mt.length : Int) + (t.rev.length : Int) := IntWalk.i64_in _ (by omega)
 unfold txnV
 generalize askedI t = aI at *
 have k0 := Blk.new w #[.int .i64 t.seq, .slice am t.mt.length cm, .slice ad t.dt.length cd, .slice ar t.rev.length cr, .bool t.h0.on, .int .i64 t.h0.left, .bool t.h1.on, .int .i64 t.h1.left, .bool t.h2.on, .int .i64 t.h2.left] 43
 have nx := bal (b0 w) (.cells #[.int .i64 t.seq, .slice am t.mt.length cm, .slice ad t.dt.length cd, .slice ar t.rev.length cr, .bool t.h0.on, .int .i64 t.h0.left, .bool t.h1.on, .int .i64 t.h1.left, .bool t.h2.on, .int .i64 t.h2.left] 43)
 obtain ⟨e0, e1, e2, e3, e4, e5, e6, e7, e8, e9⟩ := k0.c10; have l0 := k0.lt
 replace hi3 := hid hi3; replace h0 := hid h0; replace h3 := hid h3
 clear hm hd hr
 go_enter Tryz.func90, Tryz.ntmps90
 go_wp2
 go_loopw [3, 5, 15] (fun s _ i wr => ∃ k : Nat, k <= 3 /\ i = .int .i64 k /\ s = .int .i64 (askP t k) /\ Blk wr w.heap.size #[.int .i64 t.seq, .slice am t.mt.length cm, .slice ad t.dt.length cd, .slice ar t.rev.length cr, .bool t.h0.on, .int .i64 t.h0.left, .bool t.h1.on, .int .i64 t.h1.left, .bool t.h2.on, .int .i64 t.h2.left] 43 /\ Below w.heap.size w wr) (fun _ _ i _ => 3 - (intOf i).toNat)
 case atStart => exact ⟨0, by decide, rfl, by rw [h0.out], k0, nx⟩
 case round =>
  clear k0 nx e0 e1 e2 e3 e4 e5 e6 e7 e8 e9 l0
  obtain ⟨k, hk, rfl, rfl, k0, nx⟩ := hrel
  have l0 := k0.lt
  by_cases hlt : k < 3
  ·obtain (rfl | rfl | rfl) : k = 0 \/ k = 1 \/ k = 2 := by omega
   ·have hi := hi3.out wr
    replace hi := hi.1
    have hs := hid (show askP t (0 + 1) = RowKit.wrap64 (askP t 0 + t.h0.left) from (w64 _).symm)
    generalize askP t 0 = a0 at *
    go_wp2
    go_roundw
    case rel => first | exact ⟨0 + 1, by decide, rfl, by rw [hs.out], k0.alloc _, bal nx _⟩ | ((repeat apply Exists.intro); exact ⟨⟨0 + 1, by decide, rfl, by rw [hs.out], k0.alloc _, bal nx _⟩, rfl⟩)
    case measure => simp [intOf]
   ·have hi := hi3.out wr
    replace hi := hi.2.1
    have hs := hid (show askP t (1 + 1) = RowKit.wrap64 (askP t 1 + t.h1.left) from (w64 _).symm)
    generalize askP t 1 = a0 at *
    go_wp2
    go_roundw
    case rel => first | exact ⟨1 + 1, by decide, rfl, by rw [hs.out], k0.alloc _, bal nx _⟩ | ((repeat apply Exists.intro); exact ⟨⟨1 + 1, by decide, rfl, by rw [hs.out], k0.alloc _, bal nx _⟩, rfl⟩)
    case measure => simp [intOf]
   ·have hi := hi3.out wr
    replace hi := hi.2.2
    have hs := hid (show askP t (2 + 1) = RowKit.wrap64 (askP t 2 + t.h2.left) from (w64 _).symm)
    generalize askP t 2 = a0 at *
    go_wp2
    go_roundw
    case rel => first | exact ⟨2 + 1, by decide, rfl, by rw [hs.out], k0.alloc _, bal nx _⟩ | ((repeat apply Exists.intro); exact ⟨⟨2 + 1, by decide, rfl, by rw [hs.out], k0.alloc _, bal nx _⟩, rfl⟩)
    case measure => simp [intOf]
  ·obtain rfl : k = 3 := by omega
   rw [h3.out]
   go_wp2
   go_ret
   exact ⟨rfl, nx⟩
end Go.Proofs.YtjhmfljlclajnadGreatDoor
namespace Wb
open Go Go.RowKit
theorem any_hit {l : List Hnd} {k : Nat} (hk : k < l.length) (h : l[k].on = true) : l.any (·.on) = true := List.any_eq_true.2 ⟨_, List.getElem_mem hk, h⟩
theorem any_step {l : List Hnd} {k : Nat} (hk : k < l.length) (h0 : (l.take k).any (·.on) = false) (h : l[k].on = false) : (l.take (k + 1)).any (·.on) = false := by
 rw [List.take_succ_eq_append_getElem hk, List.any_append, h0]
 simp [h]
theorem any_full {l : List Hnd} {k : Nat} (hk : ¬ k < l.length) (h0 : (l.take k).any (·.on) = false) : l.any (·.on) = false := by
 rw [List.take_of_length_le (by omega)] at h0; exact h0
theorem hnds_RL {w : World} {b : Nat} {t : TypeId} {x0 x1 x2 x3 : Value} (p q r : Hnd) (h : Blk w b #[x0, x1, x2, x3, .bool p.on, .int .i64 p.left, .bool q.on, .int .i64 q.left, .bool r.on, .int .i64 r.left] t) : RL hndC w (.slice (some ⟨b, 4, none⟩) 3 3) [p, q, r] := by
 refine ⟨_, _, rfl, Nat.le_refl _, by unfold maxLen; omega, .inr ⟨_, _, rfl, fun j u hj => ?_⟩⟩
 rw [h.cell]
 rw [<- hj]
 have hl : j < 6 := by
  have := (List.getElem?_eq_some_iff.1 hj).1
  simpa [hndC] using this
 obtain (rfl | rfl | rfl | rfl | rfl | rfl) : j = 0 \/ j = 1 \/ j = 2 \/ j = 3 \/ j = 4 \/ j = 5 := by omega
 all_goals rfl
end Wb
namespace Go.Proofs.YtjhmfljlclajnadGreatDoor
open Go.RowKit Wb
theorem txn_Open1 (h : Hnd) (w : World) : Calls Tryz.prog 78 #[.agg #[.bool h.on, .int .i64 h.left]] w fun e w' => e = .returned (.bool h.on) /\ Below w.heap.size w w' := by
 have k0 := Blk.new w #[.bool h.on, .int .i64 h.left] 40
 have c0 := k0.cell 0; have c1 := k0.cell 1
 simp only [Zga, Zgb, Zgc] at c0 c1
 go_enter Tryz.func78, Tryz.ntmps78
 go_wp2
 go_ret
 exact ⟨rfl, bal (b0 w) _⟩
theorem hnd_Index (l : List Hnd) (v : Value) (w : World) (h : RL hndC w v l) (hl : l.length <= 3) :
    Calls Tryz.prog 107 #[v, .func (.func 78) #[] #[]] w fun e w' => (∃ r : Int, e = .returned (.int .i64 r) /\ (decide (r ≥ 0) = l.any (·.on))) /\ Below w.heap.size w w' := by
 obtain ⟨a, cap, rfl, _⟩ := h.form
 have hO := fun h w => txn_Open1 h w
 have hhit := fun k (hk : k < l.length) hh => any_hit (l := l) hk hh
 have hst := fun k (hk : k < l.length) h0 hh => any_step (l := l) hk h0 hh
 have hfu := fun k (hk : ¬ k < l.length) h0 => any_full (l := l) hk h0
 generalize hal : l.any (·.on) = al at *
 replace h := hid h; replace hO := hid hO; replace hhit := hid hhit; replace hst := hid hst; replace hfu := hid hfu
 clear hal
 go_enter Tryz.func107, Tryz.ntmps107
 go_wp2
 go_loopw [5, 8] (fun _ i wr => ∃ k : Nat, k <= l.length /\ i = .int .i64 k /\ Hid ((l.take k).any (·.on) = false) /\ Below w.heap.size w wr) (fun _ i _ => l.length - (intOf i).toNat)
 case atStart => exact ⟨0, Nat.zero_le _, rfl, rfl, b0 w⟩
 case round =>
  obtain ⟨k, hk, rfl, hall, nx⟩ := hrel
  by_cases hlt : k < l.length
  ·obtain ⟨b1, o1, rfl, c0, c1⟩ := RL.at2 (fun x => .bool x.on) (fun x => .int .i64 x.left) (fun _ => rfl) (h.out.below nx) hlt
   have hh1 := hid (hhit.out k hlt)
   have hh2 := hid (fun hh => hst.out k hlt hall.out hh)
   generalize l[k] = x at *
   have hOx := hO.out x
   cases hx : x.on with
   | true =>
    have hv := hid (hh1.out hx)
    rw [hx] at hOx c0
    replace hOx := hid hOx
    clear hx hh1 hh2 hall
    go_wp2_with (go_at_call 78; ((with_reducible refine (hOx.out _).mono ?_); rintro e w1 ⟨rfl, hb1⟩))
    go_ret
    exact ⟨⟨_, rfl, by rw [hv.out]; exact decide_eq_true (Int.natCast_nonneg _)⟩, bgo nx hb1⟩
   | false =>
    have hy := hid (hh2.out hx)
    rw [hx] at hOx c0
    replace hOx := hid hOx
    clear hx hh1 hh2 hall
    go_wp2_with (go_at_call 78; ((with_reducible refine (hOx.out _).mono ?_); rintro e w1 ⟨rfl, hb1⟩))
    go_roundw
    case rel => first | exact ⟨k + 1, by omega, by go_num, hy, bgo nx hb1⟩ | ((repeat apply Exists.intro); exact ⟨⟨k + 1, by omega, by go_num, hy, bgo nx hb1⟩, rfl⟩)
    case measure => simp [intOf]; omega
  ·have hv := hid (hfu.out k hlt hall.out)
   clear hall
   go_wp2
   go_ret
   exact ⟨⟨_, rfl, by rw [hv.out]; rfl⟩, nx⟩
theorem hnd_Contains (l : List Hnd) (v : Value) (w : World) (h : RL hndC w v l) (hl : l.length <= 3) :
    Calls Tryz.prog 77 #[v, .func (.func 78) #[] #[]] w fun e w' => e = .returned (.bool (l.any (·.on))) /\ Below w.heap.size w w' := by
 have hI := hid (hnd_Index l v w h hl)
 obtain ⟨a, cap, rfl, _⟩ := h.form
 generalize l.any (·.on) = al at *
 clear h
 go_enter Tryz.func77, Tryz.ntmps77
 go_wp2_with (go_at_call 107; ((with_reducible refine hI.out.mono ?_); rintro e w1 ⟨⟨r, rfl, hr⟩, hb1⟩; replace hr := hid hr))
 all_goals
  go_ret
  refine ⟨ret_b ?_, hb1⟩
  have := hr.out
  first | exact this | (rw [<- this]; (try simp_all); (try omega))
theorem txn_Open (t : Txn) (v : Value) (w : World) (h : RTxn w v t) :
    Calls Tryz.prog 54 #[v] w fun e w' => e = .returned (.bool (openB t)) /\ Below w.heap.size w w' := by
 obtain ⟨vm, vd, vr, rfl, hm, hd, hr, n1, n2, n3⟩ := h
 obtain ⟨am, cm, rfl, _⟩ := hm.form
 obtain ⟨ad, cd, rfl, _⟩ := hd.form
 obtain ⟨ar, cr, rfl, _⟩ := hr.form
 unfold txnV
 have k0 := Blk.new w #[.int .i64 t.seq, .slice am t.mt.length cm, .slice ad t.dt.length cd, .slice ar t.rev.length cr, .bool t.h0.on, .int .i64 t.h0.left, .bool t.h1.on, .int .i64 t.h1.left, .bool t.h2.on, .int .i64 t.h2.left] 43
 have nx := bal (b0 w) (.cells #[.int .i64 t.seq, .slice am t.mt.length cm, .slice ad t.dt.length cd, .slice ar t.rev.length cr, .bool t.h0.on, .int .i64 t.h0.left, .bool t.h1.on, .int .i64 t.h1.left, .bool t.h2.on, .int .i64 t.h2.left] 43)
 have hC := hnd_Contains [t.h0, t.h1, t.h2] _ _ (hnds_RL t.h0 t.h1 t.h2 k0) (Nat.le_refl 3)
 have e : [t.h0, t.h1, t.h2].any (·.on) = openB t := by unfold openB; simp [Bool.or_assoc]
 rw [e] at hC
 generalize openB t = ob at *
 replace hC := hid hC
 clear hm hd hr e k0
 go_enter Tryz.func54, Tryz.ntmps54
 go_wp2_with (go_at_call 77; ((with_reducible refine hC.out.mono ?_); rintro e w1 ⟨rfl, hb1⟩))
 go_ret
 exact ⟨rfl, bgo nx hb1⟩
theorem Zstp {A : Prop} (h : A := by
 go_enter Tryz.func61, Tryz.ntmps61
 go_wp2_with (first
  | (refine ZcL ?_) | (refine ZcS ?_; clear X; intro w X) | (refine ZcA ?_; clear X; intro g w X)
  | (go_at_call 80; ((with_reducible refine (hG.out _ X.below).mono ?_); rintro e w1 ⟨rfl, hb1⟩; replace X := X.call hb1; clear hb1))
  | (go_at_call 89; ((with_reducible refine (hH.out _).mono ?_); rintro e w1 ⟨rfl, rfl⟩)))
 exact m_ret2 rfl (.tmp rfl rfl) (.tmp rfl rfl) X (.head _) rfl rfl ⟨by rw [hv.out.1, hv.out.2] <;> (try rfl), X.below⟩) : A := h
theorem txn_Stop (t : Txn) (h : Int) (vm vd vr : Value) (w : World) (ht : RTxn w (txnV t vm vd vr) t) :
    Calls Tryz.prog 61 #[txnV t vm vd vr, .int .i64 h] w fun e w' => e = .returned (.tuple #[txnV (stopT t h) vm vd vr, .int .i64 (stopE t h)]) /\ Below w.heap.size w w' := by
 have hG0 := fun w' (hh : Below w.heap.size w w') => txn_Good t _ w' (ht.below hh)
 obtain ⟨vm', vd', vr', hvv, hm, hd, hr, n1, n2, n3⟩ := ht
 simp only [txnV, Value.agg.injEq, Array.mk.injEq, List.cons.injEq, and_true, true_and] at hvv
 obtain ⟨rfl, rfl, rfl⟩ := hvv
 obtain ⟨am, cm, rfl, _⟩ := hm.form
 obtain ⟨ad, cd, rfl, _⟩ := hd.form
 obtain ⟨ar, cr, rfl, _⟩ := hr.form
 have hH := fun w => txn_handle h w
 obtain ⟨seq, mt, dt, rev, ⟨o0, l0⟩, ⟨o1, l1⟩, ⟨o2, l2⟩⟩ := t
 unfold txnV at hG0 ⊢
 dsimp only at *
 have X := St.start [] w
 clear hm hd hr
 cases hg : goodT ⟨seq, mt, dt, rev, ⟨o0, l0⟩, ⟨o1, l1⟩, ⟨o2, l2⟩⟩ with
 | false =>
  have hv := hid (stop_bad (h := h) hg)
  have hG := fun w' hh => hG0 w' hh
  rw [hg] at hG
  replace hG := hid hG; replace hH := hid hH
  clear hg hG0
  exact Zstp
 | true =>
  have hG := fun w' hh => hG0 w' hh
  rw [hg] at hG
  replace hG := hid hG
  clear hG0
  by_cases hh : 0 <= h /\ h <= 2
  rotate_left
  ·have hv := hid (stop_none hg (.inl hh))
   have hhf : isHnd h = false := decide_eq_false (by omega)
   rw [hhf] at hH
   replace hH := hid hH
   clear hhf hg
   by_cases hneg : h < 0
   ·clear hh
    exact Zstp
   ·have hgt : 2 < h := by omega
    clear hh
    exact Zstp
  have hht : isHnd h = true := decide_eq_true (by omega)
  rw [hht] at hH
  replace hH := hid hH
  clear hht
  obtain (rfl | rfl | rfl) : h = 0 \/ h = 1 \/ h = 2 := by omega
  ·cases o0 with
   | false =>
    have hv := hid (stop_none (h := 0) hg (.inr (by simp [getH])))
    clear hg hh
    exact Zstp
   | true =>
    have hv := hid (stop_ok (h := 0) hg (by decide) (by simp [getH]))
    clear hg hh
    exact Zstp
  ·cases o1 with
   | false =>
    have hv := hid (stop_none (h := 1) hg (.inr (by simp [getH])))
    clear hg hh
    exact Zstp
   | true =>
    have hv := hid (stop_ok (h := 1) hg (by decide) (by simp [getH]))
    clear hg hh
    exact Zstp
  ·cases o2 with
   | false =>
    have hv := hid (stop_none (h := 2) hg (.inr (by simp [getH])))
    clear hg hh
    exact Zstp
   | true =>
    have hv := hid (stop_ok (h := 2) hg (by decide) (by simp [getH]))
    clear hg hh
    exact Zstp
theorem Zbgp {A : Prop} (h : A := by
 go_enter Tryz.func59, Tryz.ntmps59
 go_upto_region 1 with (first
  | (refine Zbx ?_; clear X; intro g w X)
  | (refine ZyL ?_) | (refine ZyS ?_; clear X; intro w X) | (refine ZyA ?_; clear X; intro g w X))
 go_wp2_with (first
  | go_skip
  | (refine ZyL ?_) | (refine ZyS ?_; clear X; intro w X) | (refine ZyA ?_; clear X; intro g w X)
  | (go_at_call 80; ((with_reducible refine (hG.out _ X.below).mono ?_); rintro e w1 ⟨rfl, hb1⟩; replace X := X.call hb1; clear hb1))
  | (go_at_call 89; ((with_reducible refine (hH.out _).mono ?_); rintro e w1 ⟨rfl, rfl⟩))
  | (go_at_call 90; ((with_reducible refine (hA.out _ X.below).mono ?_); rintro e w1 ⟨rfl, hb1⟩; replace X := X.call hb1; clear hb1))
  | (go_at_call 91; ((with_reducible refine (hM.out _).mono ?_); rintro e w1 ⟨rfl, rfl⟩)))
 exact m_ret2 rfl (.tmp rfl rfl) (.tmp rfl rfl) X (.head _) rfl rfl ⟨by rw [hv.out.1, hv.out.2] <;> (try rfl), X.below⟩) : A := h
theorem txn_Begin (t : Txn) (h nn fr : Int) (vm vd vr : Value) (w : World) (ht : RTxn w (txnV t vm vd vr) t) :
    Calls Tryz.prog 59 #[txnV t vm vd vr, .int .i64 h, .int .i64 nn, .int .i64 fr] w fun e w' => e = .returned (.tuple #[txnV (begT t h nn fr) vm vd vr, .int .i64 (begE t h nn fr)]) /\ Below w.heap.size w w' := by
 have hG0 := fun w' (hh : Below w.heap.size w w') => txn_Good t _ w' (ht.below hh)
 have hA := fun w' (hh : Below w.heap.size w w') => txn_Asked t _ w' (ht.below hh)
 obtain ⟨vm', vd', vr', hvv, hm, hd, hr, n1, n2, n3⟩ := ht
 simp only [txnV, Value.agg.injEq, Array.mk.injEq, List.cons.injEq, and_true, true_and] at hvv
 obtain ⟨rfl, rfl, rfl⟩ := hvv
 obtain ⟨am, cm, rfl, _⟩ := hm.form
 obtain ⟨ad, cd, rfl, _⟩ := hd.form
 obtain ⟨ar, cr, rfl, _⟩ := hr.form
 have hH := fun w => txn_handle h w
 have hM := fun w => ring_Most (askedI t + nn) w
 have hAb := fun (h : goodT t = true) => asked_low h (by omega) (by omega)
 obtain ⟨seq, mt, dt, rev, ⟨o0, l0⟩, ⟨o1, l1⟩, ⟨o2, l2⟩⟩ := t
 unfold txnV at hG0 hA ⊢
 dsimp only at *
 have X := St.start [] w
 clear hm hd hr
 cases hg : goodT ⟨seq, mt, dt, rev, ⟨o0, l0⟩, ⟨o1, l1⟩, ⟨o2, l2⟩⟩ with
 | false =>
  have hv := hid (beg_bad (h := h) (n := nn) (free := fr) hg)
  have hG := fun w' hh => hG0 w' hh
  rw [hg] at hG
  replace hG := hid hG; replace hH := hid hH
  clear hg hG0 hM hA hAb
  exact Zbgp
 | true =>
  have hG := fun w' hh => hG0 w' hh
  rw [hg] at hG
  replace hG := hid hG
  clear hG0
  by_cases hh : 0 <= h /\ h <= 2
  rotate_left
  ·have hv := hid (beg_none (n := nn) (free := fr) hg hh)
   have hhf : isHnd h = false := decide_eq_false (by omega)
   rw [hhf] at hH
   replace hH := hid hH
   clear hhf hg hM hA hAb
   by_cases hneg : h < 0
   ·clear hh
    exact Zbgp
   ·have hgt : 2 < h := by omega
    clear hh
    exact Zbgp
  have hht : isHnd h = true := decide_eq_true (by omega)
  rw [hht] at hH
  replace hH := hid hH
  clear hht
  obtain ⟨hA0, hA1⟩ := hAb hg
  clear hAb
  obtain ⟨A, hAA⟩ : ∃ A, askedI ⟨seq, mt, dt, rev, ⟨o0, l0⟩, ⟨o1, l1⟩, ⟨o2, l2⟩⟩ = A := ⟨_, rfl⟩
  rw [hAA] at hA hM hA0 hA1
  replace hA := hid hA
  obtain ⟨M, hMM⟩ : ∃ M, mostN (A + nn) = M := ⟨_, rfl⟩
  rw [hMM] at hM
  replace hM := hid hM
  obtain (rfl | rfl | rfl) : h = 0 \/ h = 1 \/ h = 2 := by omega
  ·cases o0 with
   | true =>
    have hv := hid (beg_on (h := 0) (n := nn) (free := fr) hg (by decide) (by simp [getH]))
    clear hg hh hAA hMM hA0 hA1
    exact Zbgp
   | false =>
    by_cases hn : nn < 0 \/ 12 < nn
    ·have hv := hid (beg_far (h := 0) (n := nn) (free := fr) hg (by decide) (by simp [getH]) hn)
     clear hg hh hAA hMM hA0 hA1
     by_cases hneg : nn < 0
     ·clear hn
      exact Zbgp
     ·have hgt : 12 < nn := by omega
      clear hn
      exact Zbgp
    have hn0 : 0 <= nn := by omega
    have hn1 : nn <= 12 := by omega
    have hw : IntKind.i64.wrap (A + nn) = A + nn := IntWalk.i64_in _ (by omega)
    have hw' : RowKit.wrap64 (A + nn) = A + nn := by rw [w64]; exact hw
    by_cases hb : 24 < A + nn
    ·have hv := hid (beg_full (h := 0) (free := fr) hg (by decide) (by simp [getH]) hn (.inl (by rw [hAA]; exact hb)))
     clear hg hh hAA hMM hn
     exact Zbgp
    have hbd : decide (24 < A + nn) = false := decide_eq_false hb
    by_cases hf : fr < M
    ·have hv := hid (beg_full (h := 0) (free := fr) hg (by decide) (by simp [getH]) hn (.inr (by rw [hAA, hMM]; exact hf)))
     clear hg hh hAA hMM hn
     exact Zbgp
    ·have hv := hid (beg_ok (h := 0) (free := fr) hg (by decide) (by simp [getH]) hn (by rw [hAA, hMM]; omega))
     clear hg hh hAA hMM hn
     exact Zbgp
  ·cases o1 with
   | true =>
    have hv := hid (beg_on (h := 1) (n := nn) (free := fr) hg (by decide) (by simp [getH]))
    clear hg hh hAA hMM hA0 hA1
    exact Zbgp
   | false =>
    by_cases hn : nn < 0 \/ 12 < nn
    ·have hv := hid (beg_far (h := 1) (n := nn) (free := fr) hg (by decide) (by simp [getH]) hn)
     clear hg hh hAA hMM hA0 hA1
     by_cases hneg : nn < 0
     ·clear hn
      exact Zbgp
     ·have hgt : 12 < nn := by omega
      clear hn
      exact Zbgp
    have hn0 : 0 <= nn := by omega
    have hn1 : nn <= 12 := by omega
    have hw : IntKind.i64.wrap (A + nn) = A + nn := IntWalk.i64_in _ (by omega)
    have hw' : RowKit.wrap64 (A + nn) = A + nn := by rw [w64]; exact hw
    by_cases hb : 24 < A + nn
    ·have hv := hid (beg_full (h := 1) (free := fr) hg (by decide) (by simp [getH]) hn (.inl (by rw [hAA]; exact hb)))
     clear hg hh hAA hMM hn
     exact Zbgp
    have hbd : decide (24 < A + nn) = false := decide_eq_false hb
    by_cases hf : fr < M
    ·have hv := hid (beg_full (h := 1) (free := fr) hg (by decide) (by simp [getH]) hn (.inr (by rw [hAA, hMM]; exact hf)))
     clear hg hh hAA hMM hn
     exact Zbgp
    ·have hv := hid (beg_ok (h := 1) (free := fr) hg (by decide) (by simp [getH]) hn (by rw [hAA, hMM]; omega))
     clear hg hh hAA hMM hn
     exact Zbgp
  ·cases o2 with
   | true =>
    have hv := hid (beg_on (h := 2) (n := nn) (free := fr) hg (by decide) (by simp [getH]))
    clear hg hh hAA hMM hA0 hA1
    exact Zbgp
   | false =>
    by_cases hn : nn < 0 \/ 12 < nn
    ·have hv := hid (beg_far (h := 2) (n := nn) (free := fr) hg (by decide) (by simp [getH]) hn)
     clear hg hh hAA hMM hA0 hA1
     by_cases hneg : nn < 0
     ·clear hn
      exact Zbgp
     ·have hgt : 12 < nn := by omega
      clear hn
      exact Zbgp
    have hn0 : 0 <= nn := by omega
    have hn1 : nn <= 12 := by omega
    have hw : IntKind.i64.wrap (A + nn) = A + nn := IntWalk.i64_in _ (by omega)
    have hw' : RowKit.wrap64 (A + nn) = A + nn := by rw [w64]; exact hw
    by_cases hb : 24 < A + nn
    ·have hv := hid (beg_full (h := 2) (free := fr) hg (by decide) (by simp [getH]) hn (.inl (by rw [hAA]; exact hb)))
     clear hg hh hAA hMM hn
     exact Zbgp
    have hbd : decide (24 < A + nn) = false := decide_eq_false hb
    by_cases hf : fr < M
    ·have hv := hid (beg_full (h := 2) (free := fr) hg (by decide) (by simp [getH]) hn (.inr (by rw [hAA, hMM]; exact hf)))
     clear hg hh hAA hMM hn
     exact Zbgp
    ·have hv := hid (beg_ok (h := 2) (free := fr) hg (by decide) (by simp [getH]) hn (by rw [hAA, hMM]; omega))
     clear hg hh hAA hMM hn
     exact Zbgp
end Go.Proofs.YtjhmfljlclajnadGreatDoor
namespace Wb
open Go Go.RowKit
section
variable {P : Program} {w : World} {ops : Array Oper} {rest : List Oper} {o : Oper} {a : Act} {Q : Exit -> Act -> World -> Prop}
theorem wpList_appR (hgd : o.guard = none) (d s : Operand) (t t' : TypeId) (ho : o.op = .call { callee := .builtin .append, args := #[d, s], argTypes := #[t, t'] }) {v u v' : Value} {w' : World}
    (hr : (Builtin.append_ #[t, t'] o.type #[v, u]).run P w = .ok v' w') (hd : a.eval d = v) (hs : a.eval s = u) (h : wpList P ops Q rest (a.put o.dst v') w') : wpList P ops Q (o :: rest) a w := by
 refine wpList_plain hgd fun K hK => ?_
 unfold Oper.wp execOp
 simp only [ho, resolve, invoke, builtin, Sem.run_bind, Sem.run_pure, Result.andThen_ok, List.map_toArray, List.map_cons, List.map_nil, hd, hs, hr]
 exact hK _ _ h
theorem step_copyR {K : Act -> World -> Prop} {E : Prop} (hg : o.guard = none) (d s : Operand) (t t' : TypeId) (ho : o.op = .call { callee := .builtin .copy, args := #[d, s], argTypes := #[t, t'] }) {v u v' : Value} {w' : World}
    (hr : (Builtin.copy_ #[t, t'] o.type #[v, u]).run P w = .ok v' w') (hd : a.eval d = v) (hs : a.eval s = u) (hK : K (a.put o.dst v') w') : if Region.wanted o (yielded ops a.tmps) = true then Oper.wp P o a w K Q else E := by
 have hw : Region.wanted o (yielded ops a.tmps) = true := by simp [Region.wanted, hg]
 rw [if_pos hw]
 unfold Oper.wp execOp
 simp only [ho, resolve, invoke, builtin, Sem.run_bind, Sem.run_pure, Result.andThen_ok, List.map_toArray, List.map_cons, List.map_nil, hd, hs, hr]
 exact hK
theorem run_copy_blk {dT elem : TypeId} {c bytes : Nat} (hT : Elem P dT elem c bytes) (w : World) (sT ty : TypeId) {g : Nat} {cur : Array Value} (hk : Blk w g cur elem) (off dLen dCap : Nat) (b soff sLen sCap : Nat) (cs : List Value)
    (hn : cs.length = Nat.min sLen dLen * c) (hsrc : ∀ j v, cs[j]? = some v -> w.cell? ⟨b, soff + j, none⟩ = some v) (hfit : off + cs.length <= cur.size) (h1 : ∀ v ∈ cs, v.oneCell' = true) :
    (Builtin.copy_ #[dT, sT] ty #[.slice (some ⟨g, off, none⟩) dLen dCap, .slice (some ⟨b, soff, none⟩) sLen sCap]).run P w = .ok (goInt (Nat.min sLen dLen : Nat)) (w.setCells g off cs) := by
 obtain ⟨hu, i, z, hi, hz, hsz, hby, hzs⟩ := hT
 exact run_copy_c w dT sT ty elem c g off dLen dCap ⟨b, soff, none⟩ sLen sCap cs hu (by rw [hi]; simp [hsz]) hn (fun j v hj => by rw [Addr.add_lit]; exact hsrc j v hj) (fun j hj => by rw [hk.cell, Array.getElem?_eq_getElem (by omega)]; rfl) (fun j hj => hk.free _) h1
end
section
variable {α : Type} {f : α -> List Value} {base : Nat} {e : TypeId} {c : Nat} {l : List α}
theorem flat_one (hF : Flat f c) (l : List α) : ∀ u ∈ l.flatMap f, u.oneCell' = true := fun u hu => by obtain ⟨x, _, hx⟩ := List.mem_flatMap.1 hu; exact hF.one x u hx
theorem insLen {i : Nat} (x : α) (hi : i <= l.length) : (l.take i ++ x :: l.drop i).length = l.length + 1 := by
 rw [List.length_append, List.length_take, List.length_cons, List.length_drop]; omega
theorem ins_shift (hF : Flat f c) {g cap i : Nat} {cur : Array Value} (hbg : base <= g) (hmax : cap <= maxLen) (hsz : cur.size = cap * c) (htk : cur.toList.take (l.length * c) = l.flatMap f) (hi : i <= l.length) (hc : l.length + 1 <= cap) (x : α) {w0 : World} (hk : Blk w0 g cur e) :
    ∃ cur1 : Array Value, cur1.size = cap * c /\ Blk (w0.setCells g ((i + 1) * c) ((l.drop i).flatMap f)) g cur1 e /\ ∀ w1, Blk w1 g cur1 e -> Own f base e c (w1.setCells g (i * c) (f x)) (.slice (some ⟨g, 0, none⟩) (l.length + 1) cap) (l.take i ++ x :: l.drop i) := by
 have hd := flat_dropLen hF.len l i
 have hm := mul_split (c := c) hi
 have hm2 : (l.length + 1) * c <= cap * c := Nat.mul_le_mul_right _ hc
 rw [Nat.succ_mul] at hm2
 have b1 := Blk.sets ((l.drop i).flatMap f) ((i + 1) * c) w0 cur hk (by rw [hd, hsz, Nat.succ_mul]; omega)
 have hs1 : (cur.toList.take ((i + 1) * c) ++ (l.drop i).flatMap f ++ cur.toList.drop ((i + 1) * c + ((l.drop i).flatMap f).length)).length = cap * c := by
  simp only [List.length_append, List.length_take, List.length_drop, Array.length_toList, hsz, hd, Nat.succ_mul]
  omega
 refine ⟨_, by simpa using hs1, b1, fun w1 k1 => ?_⟩
 have b2 := Blk.sets (f x) (i * c) w1 _ k1 (by rw [hF.len, List.size_toArray, hs1]; omega)
 obtain ⟨h1, h2⟩ := ins_room hF.len cur.toList l i cap x (by rw [Array.length_toList]; exact hsz) htk hi hc rfl rfl
 have := Own.ofRow (l := l.take i ++ x :: l.drop i) (base := base) hF hbg b2 (by rw [insLen x hi]; exact hc) hmax (by rw [List.size_toArray]; exact h1) (by rw [insLen x hi]; exact h2)
 rw [insLen x hi] at this
 exact this
theorem ins_grown (hF : Flat f c) {g cap i : Nat} {cur : Array Value} (Z : List Value) (hbg : base <= g) (hmax : cap <= maxLen) (hZ : Z.length = (cap - i) * c) (hcur : cur = ((l.take i).flatMap f ++ Z).toArray) (hi : i <= l.length) (hc : l.length + 1 <= cap) (x : α) {w0 : World} (hk : Blk w0 g cur e) :
    cur.size = cap * c /\ ∃ cur1 : Array Value, cur1.size = cap * c /\ Blk (w0.setCells g (i * c) (f x)) g cur1 e /\ ∀ w1, Blk w1 g cur1 e -> Own f base e c (w1.setCells g ((i + 1) * c) ((l.drop i).flatMap f)) (.slice (some ⟨g, 0, none⟩) (l.length + 1) cap) (l.take i ++ x :: l.drop i) := by
 have hd := flat_dropLen hF.len l i
 have hm := mul_split (c := c) hi
 have hm2 : (l.length + 1) * c <= cap * c := Nat.mul_le_mul_right _ hc
 have hm3 := mul_split (c := c) (n := cap) (i := i) (by omega)
 have h4 := flat_len hF.len (l.take i)
 rw [List.length_take, Nat.min_eq_left hi] at h4
 rw [Nat.succ_mul] at hm2
 have hs0 : cur.size = cap * c := by rw [hcur, List.size_toArray, List.length_append, h4, hZ]; exact hm3
 refine ⟨hs0, ?_⟩
 have b1 := Blk.sets (f x) (i * c) w0 cur hk (by rw [hF.len, hs0]; omega)
 have hs1 : (cur.toList.take (i * c) ++ f x ++ cur.toList.drop (i * c + (f x).length)).length = cap * c := by
  simp only [List.length_append, List.length_take, List.length_drop, Array.length_toList, hs0, hF.len]
  omega
 refine ⟨_, by simpa using hs1, b1, fun w1 k1 => ?_⟩
 have b2 := Blk.sets ((l.drop i).flatMap f) ((i + 1) * c) w1 _ k1 (by rw [hd, List.size_toArray, hs1, Nat.succ_mul]; omega)
 obtain ⟨h1, h2⟩ := ins_grow hF.len Z l i cap x hZ hi hc (L := cur.toList) (by rw [hcur]) rfl rfl
 have := Own.ofRow (l := l.take i ++ x :: l.drop i) (base := base) hF hbg b2 (by rw [insLen x hi]; exact hc) hmax (by rw [List.size_toArray]; exact h1) (by rw [insLen x hi]; exact h2)
 rw [insLen x hi] at this
 exact this
theorem run_app_make {P : Program} {t tn : TypeId} {bytes : Nat} (hF : Flat f c) (hT : Elem P t e c bytes) (htn : P.underlying tn = some (.int .i64)) (w : World) {g cap i m : Nat} {cur : Array Value} (hk : Blk w g cur e) (htk : cur.toList.take (l.length * c) = l.flatMap f) (hi : i <= l.length) (hm : 0 < m) (hg : cap < i + m)
    (hroom : (i + m) * bytes <= 140737488355328) (h63 : i + m <= maxLen) :
    ∃ Z : List Value, Z.length = (grownCap w (i + m) cap e - i) * c /\ ∀ ty, (Builtin.append_ #[t, tn] ty #[.slice (some ⟨g, 0, none⟩) i cap, .int .i64 m]).run P w =
      .ok (.slice (some ⟨w.heap.size, 0, none⟩) (i + m) (grownCap w (i + m) cap e)) (w.drew.alloc (.cells ((l.take i).flatMap f ++ Z).toArray e)) := by
 obtain ⟨hu, io, z, hio, hz, hsz, hby, hzs⟩ := hT
 have hold : (Builtin.firstCells io.size i (.slice (some ⟨g, 0, none⟩) i cap)).run P w.drew = .ok ((l.take i).flatMap f).toArray w.drew := by
  have h4 := flat_len hF.len (l.take i)
  rw [List.length_take, Nat.min_eq_left hi] at h4
  refine run_firstCells_some w.drew io.size i ⟨g, 0, none⟩ i cap _ (by rw [h4, hsz]) (fun j u hj => ?_)
  have hlt : j < ((l.take i).flatMap f).length := (List.getElem?_eq_some_iff.1 hj).1
  rw [Addr.add_lit, Nat.zero_add]
  have h5 : (l.flatMap f)[j]? = some u := by
   conv => lhs; rw [<- List.take_append_drop i l]
   rw [List.flatMap_append, List.getElem?_append_left hlt]
   exact hj
  rw [<- htk, List.getElem?_take] at h5
  split at h5
  ·show w.cell? _ = _
   rw [hk.cell, <- h5]
   simp
  ·cases h5
 have hby' : m * bytes <= (i + m) * bytes := Nat.mul_le_mul_right _ (by omega)
 have hr := fun ty => Lib.run_append_grow_zeros w t tn ty e io z .i64 .i64 hu htn hio hz (some ⟨g, 0, none⟩) i cap _ hold m hm (by rw [hsz]; exact hF.pos) hg (by unfold maxLen at h63; omega) (by rw [hby]; omega) (by rw [hby]; exact growslice_fits hg hroom)
 have hge := grownCap_ge w (i + m) cap e
 refine ⟨(Builtin.zeroCells z.cells m).toList ++ (Builtin.zeroCells z.cells (grownCap w (i + m) cap e - (i + m))).toList, ?_, ?_⟩
 ·rw [List.length_append, Array.length_toList, Array.length_toList, size_zeroCells, size_zeroCells, hzs, <- Nat.add_mul]
  congr 1
  omega
 ·intro ty
  rw [hr]
  congr 3
  apply Array.ext'
  simp [List.append_assoc]
end
end Wb
