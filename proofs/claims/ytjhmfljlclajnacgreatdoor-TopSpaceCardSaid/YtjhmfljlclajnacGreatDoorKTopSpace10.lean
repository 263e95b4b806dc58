/- Parts of the proof: LSpa Disk8 Disk7 Disk9 Disk11 Crash Disk2 Ring2 Ring3 TxnK TxnL. -/
import Derived.Test.YtjhmfljlclajnacGreatDoorKTopSpace8
import Derived.Test.YtjhmfljlclajnacGreatDoorKTopSpace6
import Derived.Test.YtjhmfljlclajnacGreatDoorKTopSpace9
import Derived.Test.YtjhmfljlclajnacGreatDoorURing
import Derived.Test.YtjhmfljlclajnacGreatDoorKTopSpace0
import Derived.Test.YtjhmfljlclajnacGreatDoorKTopSpace4
import Derived.Test.YtjhmfljlclajnacGreatDoorURegCall
import Derived.Deep.RegionHeld3
import Derived.Deep.CutBlock
import Derived.Deep.DeepCutAuto
import Derived.Test.YtjhmfljlclajnacGreatDoorUPoke
import Derived.Test.YtjhmfljlclajnacGreatDoorKTopSpace1
import Derived.Test.YtjhmfljlclajnacGreatDoorUFit2
import Derived.Test.YtjhmfljlclajnacGreatDoorKTopSpace5
set_option linter.unusedVariables false
set_option linter.unusedSimpArgs false
namespace Wb
open Go Go.RowKit
theorem open_or {t : Txn} (h : openB t = false) : begunB t = decide (0 < t.mt.length + t.dt.length + t.rev.length) := by unfold begunB; rw [h]; rfl
theorem open_beg {t : Txn} (h : openB t = true) : begunB t = true := by unfold begunB; rw [h]; rfl
end Wb
namespace Go.Proofs.YtjhmfljlclajnacGreatDoor
open Go.RowKit Wb
set_option maxRecDepth 100000
set_option maxHeartbeats 16000000
theorem Zspb {A : Prop} (h : A := by
  (refine q_startS 4 [] [1, 13, 14, 16] [0, 4, 12, 15] [0, 1, 2, 3, 4, 5, 6, 7, 8, 9, 10, 11, 12, 15, 13, 14, 16, 17, 18, 19, 20] X ?_; clear X; intro hQ X hL; simp only [zF, zG] at hL; simp only [zF, zG])
  (refine Zl ?_)
  (refine q_callS 30 Tryz.func30 (hGo.out _ _ (X.rtxnX y1.out y2.out y3.out (List.Mem.tail _ (List.Mem.tail _ (List.Mem.head _))) (List.Mem.tail _ (List.Mem.head _)) (List.Mem.head _))) ?_; rintro e w1 ⟨rfl, hb1⟩; replace X := X.call hb1; clear hb1; refine Zce ?_; clear hL; intro hL)
  (refine Zm ?_)
  (refine Zf ?_)
  (refine Zl ?_)
  (refine Zm ?_)
  (refine Zg ?_)
  (refine Zg ?_)
  (refine Zm ?_)
  (refine Zm ?_)
  (refine Zg ?_)
  (refine Zm ?_)
  (refine Zl ?_)
  (refine Zl ?_)
  (refine q_callS 32 Tryz.func32 (hAs.out _ _ (X.rtxnX y1.out y2.out y3.out (List.Mem.tail _ (List.Mem.tail _ (List.Mem.head _))) (List.Mem.tail _ (List.Mem.head _)) (List.Mem.head _))) ?_; rintro e w1 ⟨rfl, hb1⟩; replace X := X.call hb1; clear hb1; refine Zce ?_; clear hL; intro hL)
  (refine q_callS 31 Tryz.func31 (hMo.out _) ?_; rintro e w1 ⟨rfl, rfl⟩; refine Zce ?_; clear hL; intro hL)
  (refine q_callS 33 Tryz.func33 (hFr.out _) ?_; rintro e w1 ⟨rfl, hb1⟩; replace X := X.call hb1; clear hb1; refine Zce ?_; clear hL; intro hL)
  (refine Zg ?_)
  (refine Zg ?_)
  (refine Zg ?_)
  (refine Za ?_)
  refine q_nil ?_
  go_wp2
  go_ret
  obtain ⟨s', M', Rj', Ms', Rs', h1, h2, h3, h4⟩ := fin.out _ _ _ _ _ _ _ _ X
  exact ⟨s', M', Rj', Ms', Rs', rfl, h1, h2, h3, h4⟩) : A := h
theorem Zspc {A : Prop} (h : A := by
  (refine q_startS 4 [] [1, 13, 14, 16] [0, 4, 12, 15] [0, 1, 2, 3, 4, 5, 6, 7, 8, 9, 10, 11, 12, 15, 13, 14, 16, 17, 18, 19, 20] X ?_; clear X; intro hQ X hL; simp only [zF, zG] at hL; simp only [zF, zG])
  (refine Zl ?_)
  (refine q_callS 30 Tryz.func30 (hGo.out _ _ (X.rtxnX y1.out y2.out y3.out (List.Mem.tail _ (List.Mem.tail _ (List.Mem.head _))) (List.Mem.tail _ (List.Mem.head _)) (List.Mem.head _))) ?_; rintro e w1 ⟨rfl, hb1⟩; replace X := X.call hb1; clear hb1; refine Zce ?_; clear hL; intro hL)
  (refine Zm ?_)
  (refine Zf ?_)
  (refine Zl ?_)
  (refine Zm ?_)
  (refine Zg ?_)
  (refine Zg ?_)
  (refine Zm ?_)
  (refine Zm ?_)
  (refine Zg ?_)
  (refine Zm ?_)
  (refine Zk ?_)
  (refine Zk ?_)
  (refine Zk ?_)
  (refine Zk ?_)
  (refine Zk ?_)
  (refine Zk ?_)
  (refine Zg ?_)
  (refine Zg ?_)
  (refine Za ?_)
  refine q_nil ?_
  go_wp2
  go_ret
  obtain ⟨s', M', Rj', Ms', Rs', h1, h2, h3, h4⟩ := fin.out _ _ _ _ _ _ _ _ X
  exact ⟨s', M', Rj', Ms', Rs', rfl, h1, h2, h3, h4⟩) : A := h
def spT (_ : Unit) (Ms : List Ent) (Rs : List Rd) : Prop := Ms = [] ∧ Rs = []
def spP (l : List Aj) (k : Nat) (_ : Unit) : Prop := InvJ (jAt l k) ∧ RoomI (jAt l k)
theorem sp_look {S : List Nat} {w0 : World} {R : List Rd} (l : List Aj) : LookF S w0 R l 27 #[] spT (spP l) := by
  intro k hk h150 s hP L gj w M Rj Ms Rs F hT X
  obtain ⟨hI, hRm⟩ := hP
  obtain ⟨rfl, rfl⟩ := hT
  obtain ⟨hR2, hC6⟩ := space l[k] hI hRm
  have hI2 := inv_do l[k] hI
  rw [← jAt_succ hk] at hR2 hI2
  have X9 : St S w0 w (M ++ L) (Rj ++ R) := X
  clear X
  have X := X9
  clear X9
  show Calls Tryz.prog _ #[.pointer (some ⟨gj, 0, none⟩), .agg #[.int .i64 l[k].kind, .int .i64 l[k].h, .int .i64 l[k].b, .int .i64 l[k].n, .string l[k].text], .agg #[.int .i64 _, .int .i64 _, .string _]] w _
  have fin : ∀ (w' : World) (a b c d : Ent) (r1 r2 r3 : Rd), St S w0 w' (a :: b :: c :: d :: (M ++ L)) (r1 :: r2 :: r3 :: (Rj ++ R)) → ∃ (s' : Unit) (M' : List Ent) (Rj' : List Rd) (Ms' : List Ent) (Rs' : List Rd), spP l (k + 1) s' ∧ JF gj (jAt l (k + 1)) M' Rj' ∧ spT s' Ms' Rs' ∧ St S w0 w' (M' ++ (Ms' ++ L)) (Rj' ++ (Rs' ++ R)) := by
    intro w' a b c d r1 r2 r3 X
    exact ⟨(), M, Rj, [], [], ⟨hI2, hR2⟩, F, ⟨rfl, rfl⟩, (X.sub (.cons _ (.cons _ (.cons _ (.cons _ (List.Sublist.refl _)))))).rds (fun r h => .tail _ (.tail _ (.tail _ h)))⟩
  have hRi := fun (w : World) (L : List Ent) (R : List Rd) (X : St S w0 w (M ++ L) (Rj ++ R)) => jr_Ring F X
  have hRu := fun (w : World) (LL : List Ent) (L : List Ent) (RR : List Rd) (X : St S w0 w LL RR) (hp : LL.Perm (M ++ L)) (hr : ∀ r ∈ Rj, r ∈ RR) => jr_RunningS F X hp hr (t := (jAt l (k + 1)).now) rfl
  have hsz : JSz (jAt l (k + 1)) := by obtain ⟨v, ds, fs, MD, MU, hm, _⟩ := F; exact hm.inv.sz hm.sz
  obtain ⟨z1, z2, z3⟩ := hsz.now
  clear hsz F
  have hg := hI2.ringG
  have hx := hI2.nowG
  have hRG := fun w => ring_Good (jAt l (k + 1)).ring w
  rw [hg] at hRG
  have hFr := fun w => ring_Free (jAt l (k + 1)).ring w ((goodR_iff _).1 hg).2.2.1 ((goodR_iff _).1 hg).2.2.2
  replace hR2 : begunB (jAt l (k + 1)).now = true → mostN (askedI (jAt l (k + 1)).now) ≤ 24 - (jAt l (k + 1)).ring.used := hR2
  unfold Ring.val at hRi hRG hFr
  generalize hJ : jAt l (k + 1) = J at *
  generalize (doJ (jAt l k) l[k]).2.code = rc, (doJ (jAt l k) l[k]).2.n = rn, (doJ (jAt l k) l[k]).2.text = rt at *
  generalize l[k].kind = kd at *
  clear hI2 hI hRm hg hJ
  generalize J.now = T at *
  generalize J.ring.head = rh, J.ring.used = ru, J.last = la, J.down = d at *
  have y1 : T.mt.length ≤ 5864062014805 := by omega
  have y2 : T.dt.length ≤ 5864062014805 := by omega
  have y3 : T.rev.length ≤ 17592186044160 := by omega
  have hOp := fun v w h => txn_Open T v w h
  have hGo := fun v w h => txn_Good T v w h
  have hAs := fun v w h => txn_Asked T v w h
  have hMo := fun w => ring_Most (askedI T) w
  unfold txnV at hRu
  have hrj : ∀ r ∈ Rj, r ∈ Rj ++ R := fun r h => List.mem_append_left _ h
  have fk : (kd == 6) = false ∨ ((kd == 6) = true ∧ (rc == 6) = false) := by
    by_cases k6 : kd = 6
    · exact .inr ⟨by rw [k6]; rfl, beq_eq_false_iff_ne.2 (hC6 k6)⟩
    · exact .inl (beq_eq_false_iff_ne.2 k6)
  replace fin := hid fin; replace hRi := hid hRi; replace hRu := hid hRu; replace hRG := hid hRG; replace hFr := hid hFr; replace hOp := hid hOp; replace hGo := hid hGo; replace hAs := hid hAs; replace hMo := hid hMo
  replace y1 := hid y1; replace y2 := hid y2; replace y3 := hid y3; replace hrj := hid hrj; replace hR2 := hid hR2; replace hx := hid hx; replace fk := hid fk
  replace z1 := hid z1; replace z2 := hid z2; replace z3 := hid z3
  clear hC6
  go_enter Tryz.func27, Tryz.ntmps27
  go_upto_region 1 with (first
    | (refine Zbx ?_; clear X; intro g w X)
    | (refine ZyL ?_) | (refine ZyS ?_; clear X; intro w X) | (refine ZyA ?_; clear X; intro g w X))
  have hR := hid (hRi.out _ _ _ (X.perm (perm2J _ _ _ _)))
  go_upto_region 2 with (first
    | (refine ZyL ?_) | (refine ZyS ?_; clear X; intro w X) | (refine ZyA ?_; clear X; intro g w X)
    | (go_at_call 10; go_loud ((with_reducible refine (hR.out).mono ?_); rintro e w1 ⟨rfl, X2⟩; replace X := X2.perm (perm2J _ _ _ _).symm; clear X2 hR)))
  go_upto_region 3 with (first
    | (refine ZyL ?_) | (refine ZyS ?_; clear X; intro w X) | (refine ZyA ?_; clear X; intro g w X)
    | (go_at_call 13; go_loud ((with_reducible refine (hRu.out _ _ _ _ X (perm3J _ _ _ _ _) hrj.out).mono ?_); rintro e w1 ⟨a1, c1, a2, c2, a3, c3, rfl, _, X2⟩; replace X := X2; clear X2)))
  rcases fk.out with f6 | ⟨f6, g6⟩
  all_goals
    go_upto_region 5 with (first
      | go_skip
      | (refine ZyL ?_) | (refine ZyS ?_; clear X; intro w X) | (refine ZyA ?_; clear X; intro g w X)
      | (go_at_call 28; go_loud ((with_reducible refine (hRG.out _).mono ?_); rintro e w1 ⟨rfl, hb1⟩; replace X := X.call hb1; clear hb1)))
    cases d with
    | true =>
      go_wp2_with (first
        | (refine ZyL ?_) | (refine ZyS ?_; clear X; intro w X) | (refine ZyA ?_; clear X; intro g w X))
      go_ret
      obtain ⟨s', M', Rj', Ms', Rs', h1, h2, h3, h4⟩ := fin.out _ _ _ _ _ _ _ _ X
      exact ⟨s', M', Rj', Ms', Rs', rfl, h1, h2, h3, h4⟩
    | false =>
      obtain ⟨x1, x2⟩ := hx.out rfl
      have fsq : decide (la < T.seq) = true := decide_eq_true x2
      have hG9 := hGo.out
      rw [x1] at hG9
      replace hGo := hid hG9
      clear hG9 x2 x1
      have hO9 := hOp.out
      by_cases ho : openB T = true
      · have fle : decide (mostN (askedI T) ≤ 24 - ru) = true := decide_eq_true (hR2.out (open_beg ho))
        rw [ho] at hO9
        replace hOp := hid hO9
        clear hO9 ho
        go_upto_region 8 with (first
          | go_skip
          | (refine ZyL ?_) | (refine ZyS ?_; clear X; intro w X) | (refine ZyA ?_; clear X; intro g w X)
          | (go_at_call 29; go_loud ((with_reducible refine (hOp.out _ _ (X.rtxnX y1.out y2.out y3.out (List.Mem.tail _ (List.Mem.tail _ (List.Mem.head _))) (List.Mem.tail _ (List.Mem.head _)) (List.Mem.head _))).mono ?_); rintro e w1 ⟨rfl, hb1⟩; replace X := X.call hb1; clear hb1)))
        exact Zspb
      · have ho2 : openB T = false := by simpa using ho
        rw [ho2] at hO9
        replace hOp := hid hO9
        clear hO9 ho
        have zo1 := z1.out; have zo2 := z2.out; have zo3 := z3.out
        have hw1 : IntKind.i64.wrap ((T.mt.length : Int) + (T.dt.length : Int)) = (T.mt.length : Int) + (T.dt.length : Int) := IntWalk.i64_in _ (by omega)
        have hw2 : IntKind.i64.wrap ((T.mt.length : Int) + (T.dt.length : Int) + (T.rev.length : Int)) = (T.mt.length : Int) + (T.dt.length : Int) + (T.rev.length : Int) := IntWalk.i64_in _ (by omega)
        have hbe := open_or ho2
        replace ho2 := hid ho2
        clear zo1 zo2 zo3
        by_cases hs : 0 < T.mt.length + T.dt.length + T.rev.length
        · have fle : decide (mostN (askedI T) ≤ 24 - ru) = true := decide_eq_true (hR2.out (by rw [hbe]; exact decide_eq_true hs))
          have fsu : decide (0 < (T.mt.length : Int) + (T.dt.length : Int) + (T.rev.length : Int)) = true := decide_eq_true (by omega)
          clear hbe
          replace hs := hid hs
          go_upto_region 8 with (first
            | go_skip
            | (refine ZyL ?_) | (refine ZyS ?_; clear X; intro w X) | (refine ZyA ?_; clear X; intro g w X)
            | (go_at_call 29; go_loud ((with_reducible refine (hOp.out _ _ (X.rtxnX y1.out y2.out y3.out (List.Mem.tail _ (List.Mem.tail _ (List.Mem.head _))) (List.Mem.tail _ (List.Mem.head _)) (List.Mem.head _))).mono ?_); rintro e w1 ⟨rfl, hb1⟩; replace X := X.call hb1; clear hb1)))
          exact Zspb
        · have fsu : decide (0 < (T.mt.length : Int) + (T.dt.length : Int) + (T.rev.length : Int)) = false := decide_eq_false (by omega)
          clear hbe
          replace hs := hid hs
          go_upto_region 8 with (first
            | go_skip
            | (refine ZyL ?_) | (refine ZyS ?_; clear X; intro w X) | (refine ZyA ?_; clear X; intro g w X)
            | (go_at_call 29; go_loud ((with_reducible refine (hOp.out _ _ (X.rtxnX y1.out y2.out y3.out (List.Mem.tail _ (List.Mem.tail _ (List.Mem.head _))) (List.Mem.tail _ (List.Mem.head _)) (List.Mem.head _))).mono ?_); rintro e w1 ⟨rfl, hb1⟩; replace X := X.call hb1; clear hb1)))
          exact Zspc
theorem law_TopSpace (K : JK) (l : List Aj) (hok : ∀ a ∈ l, a.text.size ≤ 9223372036854775807 ∧ a.n ≤ 9223372036854775807) {al : Option Addr} {cl : Nat} (w : World) (hl : RL ajC w (.slice al l.length cl) l) (hF : Sl w (flR 0).v 1 (flR 0).cs) :
    Calls Tryz.prog 9 #[.slice al l.length cl] w fun e w' => e = .returned (.bool true) ∧ Below w.heap.size w w' := by
  have X : St [] w w [] [Rd.of ajC (.slice al l.length cl) l, flR 0] := ((St.start [] w).addR0 hF).addR0 hl
  have hP := hid (jr_play (L := []) K l hok 27 #[] spT (spP l) () [] [] ⟨rfl, rfl⟩ ⟨inv_new, room_new⟩ X (.tail _ (.head _)) (.head _) ⟨_, _, Tryz.func27, by kernel_rfl, rfl⟩ (sp_look l))
  go_enter Tryz.func9, Tryz.ntmps9
  go_wp2_with (first
    | (refine ZyL ?_) | (refine ZyS ?_; clear X; intro w X) | (refine ZyA ?_; clear X; intro g w X)
    | (go_at_call 21; go_loud ((with_reducible refine (hP.out).mono ?_); rintro e w1 ⟨gj, M, Rj, s, Ms, Rs, rfl, F1, hT1, hP1, X2⟩; replace X := X2; clear X2)))
  go_ret
  exact ⟨rfl, X.below⟩
end Go.Proofs.YtjhmfljlclajnacGreatDoor
namespace Go.Proofs.YtjhmfljlclajnacGreatDoor
open Go.RowKit Wb
set_option maxRecDepth 100000
set_option maxHeartbeats 1000000
theorem disk_Put_good (d : Dsk) (n : Int) (t : ByteArray) (v : Value) (w : World) (hd : RDisk w v d) (hg : goodD d = true) (ha : isAt n = true) (h32 : t.size = 32) (h200 : ¬ 200 ≤ d.writes.length) :
    Calls Tryz.prog 62 #[v, .int .i64 n, .string t] w fun e w' => ∃ v', e = .returned (.tuple #[v', .int .i64 0]) ∧ RDisk w' v' ⟨d.safe, d.writes ++ [⟨n, t⟩]⟩ ∧ NewD w.heap.size w' v v' d ⟨d.safe, d.writes ++ [⟨n, t⟩]⟩ ∧ Below w.heap.size w w' := by
  have hG := fun w (hh : RDisk w v d) => disk_Good d v w hh
  have hA := fun w => disk_at n w
  rw [hg] at hG
  rw [ha] at hA
  have e1 : ((t.size : Int) != 32) = false := by rw [h32]; rfl
  have hd2 := hd
  obtain ⟨vs, vw, rfl, hs, hw, n1, n2⟩ := hd
  obtain ⟨a, cap, rfl, ca1, ca2⟩ := hs.form
  obtain ⟨b, bcap, rfl, cb1, cb2⟩ := hw.form
  replace hd2 := hid hd2
  clear hg ha h32
  obtain ⟨safe, writes⟩ := d
  dsimp only at *
  have hC := fun v w (hh : RL wrC w v writes) => clone_Writes writes v w hh n2
  replace hG := hid hG
  replace hA := hid hA
  replace hC := hid hC
  replace hs := hid hs
  replace hw := hid hw
  go_enter Tryz.func62, Tryz.ntmps62
  go_wp2_with (first
    | (go_at_call 110; refine (hG.out _ (hd2.out.below (by exact Zlo))).mono ?_; rintro e w1 ⟨rfl, hb1⟩; obtain ⟨hbc, hbf⟩ := bcell hb1; have hbz := hb1.size; try simp only [World.size_alloc, World.size_setCell, World.size_drew] at hbz; have hz0 := Nat.lt_of_lt_of_le (n := w.heap.size) (by omega) hbz; have hz1 := Nat.lt_of_lt_of_le (n := w.heap.size + 1) (by omega) hbz)
    | (go_at_call 111; refine (hA.out _).mono ?_; rintro e w2 ⟨rfl, rfl⟩))
  have hnx : Below w.heap.size w w1 := by exact Zlo
  have k0 : Blk w1 w.heap.size #[.slice a safe.length cap, .slice b writes.length bcap] 46 := ((Blk.new w _ _).alloc _).step hb1
  have k1 : Blk w1 (w.heap.size + 1) #[.slice none 0 0, .slice none 0 0] 46 := (Blk.newAt (w := w.alloc _) (by simp)).step hb1
  have c0 := k0.cell 0
  have c1 := k0.cell 1
  simp only [Zga, Zgb, Zgc] at c0 c1
  have hw1 := hid (hw.out.below hnx)
  clear hb1 hbc hbf hw hd2
  go_region_held3 (fun w' => w'.cell? ⟨w.heap.size, 0, none⟩ = some (.slice a safe.length cap) ∧ w'.cell? ⟨w.heap.size, 1, none⟩ = some (.slice b writes.length bcap)) (first | exact ⟨by with_reducible assumption, by with_reducible assumption⟩ | go_keep) (first
    | (refine step_call 46 _ _ (by rfl) (by rfl) #[.slice b writes.length bcap] (by rfl) ⟨_, _, Tryz.func46, by kernel_rfl, rfl⟩ (hC.out _ _ (hw1.out.below (by exact Zlo))) ?_; rintro e w3 ⟨v3, rfl, hown3, hb3⟩; obtain ⟨a3, cap3, rfl⟩ := hown3.form; have hz3 : w1.heap.size ≤ w3.heap.size := (by have h := hb3.size; simp at h; omega); have k3 : Blk w3 (w.heap.size + 1) #[.slice none 0 0, .slice none 0 0] 46 := (by with_reducible (first | exact k1.drew.step hb3 | exact (k1.alloc _).drew.step hb3)); replace hown3 := hown3.mono (base' := w1.heap.size) (by simp); have hb13 : Below w.heap.size w w3 := (by with_reducible (first | exact hnx.drew.trans (hb3.mono (by simp; omega)) | exact (allocB hnx (by omega) _).drew.trans (hb3.mono (by simp; omega)))); have k03 : Blk w3 w.heap.size #[.slice a safe.length cap, .slice b writes.length bcap] 46 := (by with_reducible (first | exact k0.drew.step hb3 | exact (k0.alloc _).drew.step hb3)); have p0 := k03.cell 0; have p1 := k03.cell 1; simp only [Zga, Zgb, Zgc] at p0 p1; refine ⟨_, rfl, ?_⟩)
    | go_loud (refine step_app (by rfl) _ _ 44 (by rfl) w1.heap.size _ 2 24 wrC_flat elemWr (hown3.alloc _) (by rfl) [⟨n, t⟩] (RL.newN (f := wrC) _ _ _ [⟨n, t⟩] (by show 1 ≤ maxLen; decide)) (by rfl) (by (try simp); omega) (by (try simp); unfold maxLen; omega) (by (try simp); omega) ?_; intro v4 w4 hown4 hb4 _; obtain ⟨a4, cap4, rfl⟩ := hown4.form; have k4 := (k3.alloc _).below hb4 (by omega); have hb14 := (allocB hb13 (by omega) _).trans (hb4.mono (by omega)); have k04 := (k03.alloc _).below hb4 (by omega); have p2 := k04.cell 0; have p3 := k04.cell 1; simp only [Zga, Zgb, Zgc] at p2 p3; have f0 := k4.cell 0; have f1 := k4.cell 1; simp only [Zga, Zgb, Zgc] at f0 f1; have f2 := k4.free 0; have f3 := k4.free 1)
    | go_loud (refine step_app (by rfl) _ _ 44 (by rfl) w1.heap.size _ 2 24 wrC_flat elemWr hown3 (by rfl) [⟨n, t⟩] (RL.ofBlk (f := wrC) (g := w1.heap.size) [⟨n, t⟩] ((Blk.newAt (w := w1) (by simp)).drew.step hb3) (by show 1 ≤ maxLen; decide)) (by rfl) (by (try simp); omega) (by (try simp); unfold maxLen; omega) (by (try simp); omega) ?_; intro v4 w4 hown4 hb4 _; obtain ⟨a4, cap4, rfl⟩ := hown4.form; have k4 := k3.below hb4 (by omega); have hb14 := hb13.trans (hb4.mono (by omega)); have k04 := k03.below hb4 (by omega); have p2 := k04.cell 0; have p3 := k04.cell 1; simp only [Zga, Zgb, Zgc] at p2 p3; have f0 := k4.cell 0; have f1 := k4.cell 1; simp only [Zga, Zgb, Zgc] at f0 f1; have f2 := k4.free 0; have f3 := k4.free 1))
  all_goals
    go_wp2
    have e4 : (writes ++ [(⟨n, t⟩ : Wr)]).length = writes.length + 1 := by simp
    rw [e4] at hown4
    have l1 := k1.lt
    have hF : Below w.heap.size w ((w4.setCell ⟨w.heap.size + 1, 0, none⟩ (.slice a safe.length cap)).setCell ⟨w.heap.size + 1, 1, none⟩ (.slice a4 (writes.length + 1) cap4)) := (hb14.setCell (by simp) _).setCell (by simp) _
    refine bodyPost_ret (v := .tuple #[.agg #[.slice a safe.length cap, .slice a4 (writes.length + 1) cap4], .int .i64 0]) (by simp [results, Tryz.results62, go_sem, f0, f1]) rfl ⟨_, rfl, ⟨_, _, rfl, hs.out.below hF, ?_, n1, by simp; omega⟩, ⟨_, _, _, _, rfl, rfl, .same _ _ _ _ _, ?_⟩, hF⟩
    · exact ((hown4.setCell (by simp; omega) _).setCell (by simp; omega) _).reads
    · exact ((hown4.setCell (by simp; omega) _).setCell (by simp; omega) _).slot (by omega)
theorem disk_PutN (d : Dsk) (n : Int) (t : ByteArray) (v : Value) (w : World) (hd : RDisk w v d) :
    Calls Tryz.prog 62 #[v, .int .i64 n, .string t] w fun e w' => ∃ v', e = .returned (.tuple #[v', .int .i64 (putE d n t)]) ∧ RDisk w' v' (putD d n t) ∧ NewD w.heap.size w' v v' d (putD d n t) ∧ Below w.heap.size w w' := by
  have hG := fun w (hh : RDisk w v d) => disk_Good d v w hh
  have hA := fun w => disk_at n w
  have hd2 := hd
  obtain ⟨vs, vw, rfl, hs, hw, n1, n2⟩ := hd
  obtain ⟨a, cap, rfl, _⟩ := hs.form
  obtain ⟨b, bcap, rfl, _⟩ := hw.form
  replace hd2 := hid hd2
  by_cases hg : goodD d = true
  · rw [hg] at hG
    by_cases ha : isAt n = true
    · have hg0 := hg
      have ha0 := ha
      rw [ha] at hA
      have hgood : goodD d = true ∧ isAt n = true := ⟨hg, ha⟩
      by_cases h32 : t.size = 32
      · have e1 : ((t.size : Int) != 32) = false := by rw [h32]; rfl
        by_cases h200 : 200 ≤ d.writes.length
        · have he : putE d n t = 11 := by unfold putE; rw [if_neg (not_not_intro hgood), if_neg (not_not_intro h32), if_pos h200]
          have hv : putD d n t = d := by unfold putD; rw [he, if_neg (by decide)]
          rw [hv, he]
          clear ha hg hv he hs hw hgood h32
          replace hG := hid hG
          replace hA := hid hA
          go_enter Tryz.func62, Tryz.ntmps62
          go_wp2_with (first
            | (go_at_call 110; refine (hG.out _ (hd2.out.below (by exact Zlo))).mono ?_; rintro e w1 ⟨rfl, hb1⟩; obtain ⟨hbc, hbf⟩ := bcell hb1; have hbz := hb1.size; try simp only [World.size_alloc, World.size_setCell, World.size_drew] at hbz; have hz0 := Nat.lt_of_lt_of_le (n := w.heap.size) (by omega) hbz; have hz1 := Nat.lt_of_lt_of_le (n := w.heap.size + 1) (by omega) hbz)
            | (go_at_call 111; refine (hA.out _).mono ?_; rintro e w2 ⟨rfl, rfl⟩))
          exact bodyPost_ret (v := .tuple #[.agg #[.slice a d.safe.length cap, .slice b d.writes.length bcap], .int .i64 11]) (by simp [results, Tryz.results62, go_sem, hbc]) rfl ⟨_, rfl, hd2.out.below (by exact Zlo), hd2.out.same _, by exact Zlo⟩
        · have he : putE d n t = 0 := by unfold putE; rw [if_neg (not_not_intro hgood), if_neg (not_not_intro h32), if_neg h200]
          have hv : putD d n t = ⟨d.safe, d.writes ++ [⟨n, t⟩]⟩ := by unfold putD; rw [if_pos he]
          rw [hv, he]
          clear ha hg hv he hgood
          exact disk_Put_good d n t _ w hd2.out hg0 ha0 h32 h200
      · have e1 : ((t.size : Int) != 32) = true := bne_iff_ne.2 (by omega)
        have he : putE d n t = 1 := by unfold putE; rw [if_neg (not_not_intro hgood), if_pos h32]
        have hv : putD d n t = d := by unfold putD; rw [he, if_neg (by decide)]
        rw [hv, he]
        clear ha hg hv he hs hw hgood h32
        replace hG := hid hG
        replace hA := hid hA
        go_enter Tryz.func62, Tryz.ntmps62
        go_wp2_with (first
          | (go_at_call 110; refine (hG.out _ (hd2.out.below (by exact Zlo))).mono ?_; rintro e w1 ⟨rfl, hb1⟩; obtain ⟨hbc, hbf⟩ := bcell hb1; have hbz := hb1.size; try simp only [World.size_alloc, World.size_setCell, World.size_drew] at hbz; have hz0 := Nat.lt_of_lt_of_le (n := w.heap.size) (by omega) hbz; have hz1 := Nat.lt_of_lt_of_le (n := w.heap.size + 1) (by omega) hbz)
          | (go_at_call 111; refine (hA.out _).mono ?_; rintro e w2 ⟨rfl, rfl⟩))
        exact bodyPost_ret (v := .tuple #[.agg #[.slice a d.safe.length cap, .slice b d.writes.length bcap], .int .i64 1]) (by simp [results, Tryz.results62, go_sem, hbc]) rfl ⟨_, rfl, hd2.out.below (by exact Zlo), hd2.out.same _, by exact Zlo⟩
    · have he : putE d n t = 2 := by unfold putE; rw [if_pos (fun hh => ha hh.2)]
      have hv : putD d n t = d := by unfold putD; rw [he, if_neg (by decide)]
      rw [hv, he]
      rw [Bool.not_eq_true _ |>.mp ha] at hA
      clear ha hg hv he
      replace hG := hid hG
      replace hA := hid hA
      replace hs := hid hs
      replace hw := hid hw
      go_enter Tryz.func62, Tryz.ntmps62
      go_wp2_with (first
        | (go_at_call 110; refine (hG.out _ (hd2.out.below (by exact Zlo))).mono ?_; rintro e w1 ⟨rfl, hb1⟩; obtain ⟨hbc, hbf⟩ := bcell hb1; have hbz := hb1.size; try simp only [World.size_alloc, World.size_setCell, World.size_drew] at hbz; have hz0 := Nat.lt_of_lt_of_le (n := w.heap.size) (by omega) hbz; have hz1 := Nat.lt_of_lt_of_le (n := w.heap.size + 1) (by omega) hbz)
        | (go_at_call 111; refine (hA.out _).mono ?_; rintro e w2 ⟨rfl, rfl⟩))
      exact bodyPost_ret (v := .tuple #[.agg #[.slice a d.safe.length cap, .slice b d.writes.length bcap], .int .i64 2]) (by simp [results, Tryz.results62, go_sem, hbc]) rfl ⟨_, rfl, hd2.out.below (by exact Zlo), hd2.out.same _, by exact Zlo⟩
  · have he : putE d n t = 2 := by unfold putE; rw [if_pos (fun hh => hg hh.1)]
    have hv : putD d n t = d := by unfold putD; rw [he, if_neg (by decide)]
    rw [hv, he]
    rw [Bool.not_eq_true _ |>.mp hg] at hG
    clear hg hv he hs hw
    replace hG := hid hG
    go_enter Tryz.func62, Tryz.ntmps62
    go_wp2_with (go_at_call 110; refine (hG.out _ (hd2.out.below (by exact Zlo))).mono ?_; rintro e w1 ⟨rfl, hb1⟩; obtain ⟨hbc, hbf⟩ := bcell hb1; have hbz := hb1.size; try simp only [World.size_alloc, World.size_setCell, World.size_drew] at hbz; have hz0 := Nat.lt_of_lt_of_le (n := w.heap.size) (by omega) hbz; have hz1 := Nat.lt_of_lt_of_le (n := w.heap.size + 1) (by omega) hbz)
    exact bodyPost_ret (v := .tuple #[.agg #[.slice a d.safe.length cap, .slice b d.writes.length bcap], .int .i64 2]) (by simp [results, Tryz.results62, go_sem, hbc]) rfl ⟨_, rfl, hd2.out.below (by exact Zlo), hd2.out.same _, by exact Zlo⟩
theorem disk_FlushN (d : Dsk) (v : Value) (w : World) (hd : RDisk w v d) :
    Calls Tryz.prog 63 #[v] w fun e w' => ∃ v', e = .returned (.tuple #[v', .int .i64 (flushE d)]) ∧ RDisk w' v' (flushD d) ∧ NewD w.heap.size w' v v' d (flushD d) ∧ Below w.heap.size w w' := by
  have hG := fun w (hh : RDisk w v d) => disk_Good d v w hh
  have hd2 := hd
  obtain ⟨vs, vw, rfl, hs, hw, n1, n2⟩ := hd
  obtain ⟨a, cap, rfl, ca1, ca2⟩ := hs.form
  obtain ⟨b, bcap, rfl, cb1, cb2⟩ := hw.form
  replace hd2 := hid hd2
  by_cases hg : goodD d = true
  · have he : flushE d = 0 := by unfold flushE; rw [if_pos hg]
    have hv : flushD d = ⟨flushL d.safe d.writes, []⟩ := by unfold flushD; rw [if_pos hg]
    rw [hv, he]
    rw [hg] at hG
    obtain ⟨g1, g2, _, g3⟩ := (goodD_iff d).1 hg
    clear he hv hg
    obtain ⟨safe, writes⟩ := d
    dsimp only at *
    have hC := fun v w (hh : RL strC w v safe) => clone_Strings safe v w hh n1
    have hstep := fun (k : Nat) (hk : k < writes.length) => flushL_step safe writes hk
    have hlen := fun k => flushL_len safe (writes.take k)
    have hwr := fun (k : Nat) (hk : k < writes.length) => List.all_eq_true.1 g3 writes[k] (List.getElem_mem hk)
    replace hG := hid hG
    replace hC := hid hC
    replace hs := hid hs
    replace hw := hid hw
    replace hstep := hid hstep
    replace hlen := hid hlen
    replace hwr := hid hwr
    replace g1 := hid g1
    clear g3
    go_enter Tryz.func63, Tryz.ntmps63
    go_wp2_with (first
      | (go_at_call 110; refine (hG.out _ (hd2.out.below (by exact Zlo))).mono ?_; rintro e w1 ⟨rfl, hb1⟩; obtain ⟨hbc, hbf⟩ := bcell hb1; have hbz := hb1.size; try simp only [World.size_alloc, World.size_setCell, World.size_drew] at hbz; have hz0 := Nat.lt_of_lt_of_le (n := w.heap.size) (by omega) hbz; have hz1 := Nat.lt_of_lt_of_le (n := w.heap.size + 1) (by omega) hbz)
      | (go_at_call 45; go_loud (refine (hC.out _ _ (hs.out.below (by exact Zlo))).mono ?_; rintro e w3 ⟨v3, rfl, hown3, hb3⟩; obtain ⟨a3, cap3, rfl⟩ := hown3.form; have k0 : Blk w3 w.heap.size #[.slice a safe.length cap, .slice b writes.length bcap] 46 := (((Blk.new w _ _).alloc _).step hb1).step hb3; have k1 : Blk w3 (w.heap.size + 1) #[.slice none 0 0, .slice none 0 0] 46 := ((Blk.newAt (w := w.alloc _) (by simp)).step hb1).step hb3; have hnx3 : Below w.heap.size w w3 := (by exact Zlo); have lt1 := k1.lt; have lt0 := k0.lt; have c0 := k0.cell 0; have c1 := k0.cell 1; simp only [Zga, Zgb, Zgc] at c0 c1; have og := fun g (hg : (Value.slice a3 safe.length cap3).ownBlock = some g) => World.ownsRow.lt hown3 g hg; replace og := hid og; have lz := hb1.size; clear hb1 hb3 hbc hbf)))
    have hz1w : w.heap.size + 1 < w1.heap.size := by (try simp at lz); omega
    have o0 := hown3
    go_loopw [6, 18] (fun _ i wr => ∃ k : Nat, k ≤ writes.length ∧ i = .int .i64 k ∧ Wb.Own strC w1.heap.size 9 1 wr (.slice a3 safe.length cap3) (flushL safe (writes.take k)) ∧ Blk wr w.heap.size #[.slice a safe.length cap, .slice b writes.length bcap] 46 ∧ Blk wr (w.heap.size + 1) #[.slice none 0 0, .slice none 0 0] 46 ∧ Blk wr w3.heap.size #[.slice a3 safe.length cap3, .slice none 0 0] 46 ∧ Below w.heap.size w wr) (fun _ i _ => writes.length - (intOf i).toNat)
    case atStart => exact ⟨0, Nat.zero_le _, rfl, o0.alloc _, k0.alloc _, k1.alloc _, Blk.new _ _ _, allocB hnx3 (by omega) _⟩
    case round =>
      obtain ⟨k, hk, rfl, hown, k0, k1, k2, hnx⟩ := hrel
      have lt0 := k0.lt
      have lt1 := k1.lt
      have lt2 := k2.lt
      have c0 := k0.cell 0
      have c1 := k0.cell 1
      have c2 := k1.cell 0
      have c3 := k1.cell 1
      have c4 := k2.cell 0
      have c5 := k2.cell 1
      simp only [Zga, Zgb, Zgc] at c0 c1 c2 c3 c4 c5
      by_cases hlt : k < writes.length
      · obtain ⟨b2, off, rfl, d0, d1⟩ := RL.at2 (fun x => .int .i64 x.at_) (fun x => .string x.text) (fun _ => rfl) (hw.out.below hnx) hlt
        have lt3 := World.block_lt_of_cell? _ _ d0
        dsimp only at lt3
        have hst := hstep.out k hlt
        have hwk := hwr.out k hlt
        have hl := hlen.out k
        obtain ⟨⟨p, t⟩, hx⟩ : ∃ x, writes[k] = x := ⟨_, rfl⟩
        rw [hx] at d0 d1 hst hwk
        obtain ⟨m, rfl⟩ : ∃ m : Nat, p = m := ⟨p.toNat, by simp only [wrOk, Bool.and_eq_true, isAt, decide_eq_true_eq] at hwk; omega⟩
        have hm : m < safe.length := by simp only [wrOk, Bool.and_eq_true, isAt, decide_eq_true_eq] at hwk; have := g1.out; omega
        dsimp only at d0 d1
        simp only [Int.toNat_natCast] at hst
        generalize flushL safe (writes.take k) = fl at *
        obtain ⟨g, cap4, hv, hgb, hgl, hgc, hset⟩ := hown.poke strC_flat (k := m) (by omega)
        simp only [Value.slice.injEq] at hv
        obtain ⟨rfl, _, rfl⟩ := hv
        obtain ⟨z0, z1⟩ := hgc 0 (by decide)
        replace hset := hset 0 t (.string t) (by decide) rfl
        rw [← hst, Nat.mul_one, Nat.add_zero] at hset
        simp only [Nat.mul_one, Nat.add_zero, strC, List.getElem?_cons_zero] at z0 z1
        replace hset := hid hset
        have hne := og.out g rfl
        have hm3 : m < fl.length := by omega
        obtain ⟨old, hold⟩ : ∃ y, fl[m] = y := ⟨_, rfl⟩
        rw [hold] at z1
        clear hold hwk hst hx hown hgc hl hm3
        have hm2 : (m : Int) < safe.length := by omega
        go_wp2
        go_roundw
        case rel => exact ⟨k + 1, by omega, by go_num, hset.out.alloc _, (k0.set_other _ _ (by simp; omega)).alloc _, (k1.set_other _ _ (by simp; omega)).alloc _, (k2.set_other _ _ (by simp; omega)).alloc _, allocB (hnx.setCell (by simp; omega) _) (by omega) _⟩
        case measure => simp [intOf]; omega
      · rw [List.take_of_length_le (by omega)] at hown
        have f1 := k1.free 0
        have f2 := k1.free 1
        go_wp2
        have hF : Below w.heap.size w ((wr.setCell ⟨w.heap.size + 1, 0, none⟩ (.slice a3 safe.length cap3)).setCell ⟨w.heap.size + 1, 1, none⟩ (.slice none 0 0)) := (hnx.setCell (by simp) _).setCell (by simp) _
        have hfl := flushL_len safe writes
        obtain ⟨a9, cap9, hv9, _, _⟩ := hown.reads.form
        have ho := (hown.setCell (p := ⟨w.heap.size + 1, 0, none⟩) (by simp; omega) (.slice a3 safe.length cap3)).setCell (p := ⟨w.heap.size + 1, 1, none⟩) (by simp; omega) (.slice none 0 0)
        refine bodyPost_ret (v := .tuple #[.agg #[.slice a3 safe.length cap3, .slice none 0 0], .int .i64 0]) (by simp [results, Tryz.results63, go_sem, c2, c3]) rfl ⟨_, rfl, ⟨_, _, rfl, ho.reads, RL.nil _ _, by rw [hfl]; exact n1, by simp⟩, ⟨_, _, _, _, rfl, rfl, ho.slot (by omega), .nil⟩, hF⟩
  · have he : flushE d = 2 := by unfold flushE; rw [if_neg hg]
    have hv : flushD d = d := by unfold flushD; rw [if_neg hg]
    rw [hv, he]
    rw [Bool.not_eq_true _ |>.mp hg] at hG
    clear hg hv he hs hw
    replace hG := hid hG
    go_enter Tryz.func63, Tryz.ntmps63
    go_wp2_with (go_at_call 110; refine (hG.out _ (hd2.out.below (by exact Zlo))).mono ?_; rintro e w1 ⟨rfl, hb1⟩; obtain ⟨hbc, hbf⟩ := bcell hb1; have hbz := hb1.size; try simp only [World.size_alloc, World.size_setCell, World.size_drew] at hbz; have hz0 := Nat.lt_of_lt_of_le (n := w.heap.size) (by omega) hbz; have hz1 := Nat.lt_of_lt_of_le (n := w.heap.size + 1) (by omega) hbz)
    exact bodyPost_ret (v := .tuple #[.agg #[.slice a d.safe.length cap, .slice b d.writes.length bcap], .int .i64 2]) (by simp [results, Tryz.results63, go_sem, hbc]) rfl ⟨_, rfl, hd2.out.below (by exact Zlo), hd2.out.same _, by exact Zlo⟩
theorem disk_New (w : World) :
    Calls Tryz.prog 60 #[] w fun e w' => ∃ vs, e = .returned (.agg #[vs, .slice none 0 0]) ∧ Wb.Own strC (w.heap.size + 2) 9 1 w' vs (List.replicate 37 (fit ⟨#[]⟩)) ∧ Below w.heap.size w w' := by
  have hFit := fun w => disk_Fit ⟨#[]⟩ w (by decide)
  have hrep := fun k => (List.replicate_succ' (n := k) (a := fit ⟨#[]⟩))
  generalize fit ⟨#[]⟩ = z at *
  replace hFit := hid hFit
  replace hrep := hid hrep
  go_enter Tryz.func60, Tryz.ntmps60
  go_wp2
  go_loopw [2] (fun i wr => ∃ k : Nat, k ≤ 37 ∧ i = .int .i64 k ∧ ∃ vo, Wb.Own strC (w.heap.size + 2) 9 1 wr vo (List.replicate k z) ∧ Blk wr w.heap.size #[.slice none 0 0, .slice none 0 0] 46 ∧ Blk wr (w.heap.size + 1) #[vo, .slice none 0 0] 46 ∧ Below w.heap.size w wr) (fun i _ => 37 - (intOf i).toNat)
  case atStart => exact ⟨0, by decide, rfl, _, Own.nil _ _ _ _ _, (Blk.new w _ _).alloc _, Blk.newAt (by simp), by exact Zlo⟩
  case round =>
    obtain ⟨k, hk, rfl, vo, hown, k0, k1, hnx⟩ := hrel
    obtain ⟨ao, capo, rfl⟩ := hown.form
    have lt0 := k0.lt
    have lt1 := k1.lt
    have c0 := k0.cell 0
    have c1 := k0.cell 1
    have c2 := k1.cell 0
    have c3 := k1.cell 1
    simp only [Zga, Zgb, Zgc] at c0 c1 c2 c3
    have hkl : (List.replicate k z).length = k := List.length_replicate
    rw [hkl] at hown k1 c2
    clear hkl
    by_cases hlt : k < 37
    · have hr := hid (hrep.out k)
      have hlen : (List.replicate k z).length = k := List.length_replicate
      generalize List.replicate k z = Mk at *
      go_wp2
      go_region_law (first
        | (refine step_call 65 _ _ (by rfl) (by rfl) #[.string ⟨#[]⟩] (by rfl) ⟨_, _, Tryz.func65, by kernel_rfl, rfl⟩ (hFit.out _) ?_; rintro e w3 ⟨rfl, hb3⟩; refine ⟨_, rfl, ?_⟩; have k0' := k0.drew.step hb3; have k1' := k1.drew.step hb3; have c2' := k1'.cell 0; simp only [Zga, Zgb, Zgc] at c2'; have hown3 := hown.drew.below hb3; have hnx3 := hnx.drew.trans (hb3.mono (by simp; omega)); have lt1' := k1'.lt)
        | go_loud (refine step_push (by rfl) _ _ 43 (by rfl) (w.heap.size + 2) _ 1 16 strC_flat elemStr (hown3.alloc _) (by rfl) z w3.heap.size (Blk.newAt (w := w3) rfl) (by rfl) (by rfl) k hlen (by omega) (by omega) (by (try simp); omega) ?_; intro a4 cap4 w4 hown4 hb4 _; have k4 := (k1'.alloc _).below hb4 (by omega); have f5 := k4.cell 0; simp only [Zga, Zgb, Zgc] at f5; have f6 := k4.free 0))
      all_goals
        go_wp2
        go_roundw
        case rel => exact ⟨k + 1, by omega, by go_num, _, by rw [hr.out]; exact hown4.setCell (p := ⟨w.heap.size + 1, 0, none⟩) (by simp) _, ((k0'.alloc _).below hb4 (by omega)).set_other _ _ (by simp), k4.set 0 _, ((allocB hnx3 (by omega) _).trans (hb4.mono (by omega))).setCell (by simp) _⟩
        case measure => simp [intOf]; omega
    · obtain rfl : k = 37 := by omega
      have f1 := k0.free 0
      have f2 := k0.free 1
      go_wp2
      have hF : Below w.heap.size w ((wr.setCell ⟨w.heap.size, 0, none⟩ (.slice ao 37 capo)).setCell ⟨w.heap.size, 1, none⟩ (.slice none 0 0)) := (hnx.setCell (by simp) _).setCell (by simp) _
      have ho := (hown.setCell (p := ⟨w.heap.size, 0, none⟩) (by simp) (.slice ao 37 capo)).setCell (p := ⟨w.heap.size, 1, none⟩) (by simp) (.slice none 0 0)
      exact bodyPost_ret (v := .agg #[.slice ao 37 capo, .slice none 0 0]) (by simp [results, Tryz.results60, go_sem, c0, c1]) rfl ⟨_, rfl, ho, hF⟩
end Go.Proofs.YtjhmfljlclajnacGreatDoor
namespace Go.Proofs.YtjhmfljlclajnacGreatDoor
open Go.RowKit Wb
set_option maxRecDepth 100000
set_option maxHeartbeats 2000000
theorem disk_Crash_bad (d : Dsk) (draw : Int) (v : Value) (w : World) (hd : RDisk w v d) (h : ¬ (goodD d = true ∧ 0 ≤ draw)) :
    Calls Tryz.prog 74 #[v, .int .i64 draw] w fun e w' => ∃ v', e = .returned (.tuple #[v', .int .i64 (crashE d draw)]) ∧ RDisk w' v' (crashD d draw) ∧ NewD w.heap.size w' v v' d (crashD d draw) ∧ Below w.heap.size w w' := by
  have hG := fun w (hh : RDisk w v d) => disk_Good d v w hh
  have hd2 := hd
  obtain ⟨vs, vw, rfl, hs, hw, n1, n2⟩ := hd
  obtain ⟨a, cap, rfl, ca1, ca2⟩ := hs.form
  obtain ⟨b, bcap, rfl, cb1, cb2⟩ := hw.form
  have he : crashE d draw = 2 := by unfold crashE; rw [if_neg h]
  have hv : crashD d draw = d := by unfold crashD; rw [if_neg h]
  rw [hv, he]
  clear he hv hs hw
  replace hd2 := hid hd2
  by_cases hg : goodD d = true
  · have hneg : draw < 0 := Int.not_le.1 (fun hh => h ⟨hg, hh⟩)
    rw [hg] at hG
    clear hg h
    replace hG := hid hG
    go_enter Tryz.func74, Tryz.ntmps74
    go_wp2_with (go_at_call 110; refine (hG.out _ (hd2.out.below (by exact Zlo))).mono ?_; rintro e w1 ⟨rfl, hb1⟩; obtain ⟨hbc, hbf⟩ := bcell hb1; have hbz := hb1.size; try simp only [World.size_alloc, World.size_setCell, World.size_drew] at hbz; have hz0 := Nat.lt_of_lt_of_le (n := w.heap.size) (by omega) hbz; have hz1 := Nat.lt_of_lt_of_le (n := w.heap.size + 1) (by omega) hbz)
    exact bodyPost_ret (v := .tuple #[.agg #[.slice a d.safe.length cap, .slice b d.writes.length bcap], .int .i64 2]) (by simp [results, Tryz.results74, go_sem, hbc]) rfl ⟨_, rfl, hd2.out.below (by exact Zlo), hd2.out.same _, by exact Zlo⟩
  · rw [Bool.not_eq_true _ |>.mp hg] at hG
    clear hg h
    replace hG := hid hG
    go_enter Tryz.func74, Tryz.ntmps74
    go_wp2_with (go_at_call 110; refine (hG.out _ (hd2.out.below (by exact Zlo))).mono ?_; rintro e w1 ⟨rfl, hb1⟩; obtain ⟨hbc, hbf⟩ := bcell hb1; have hbz := hb1.size; try simp only [World.size_alloc, World.size_setCell, World.size_drew] at hbz; have hz0 := Nat.lt_of_lt_of_le (n := w.heap.size) (by omega) hbz; have hz1 := Nat.lt_of_lt_of_le (n := w.heap.size + 1) (by omega) hbz)
    exact bodyPost_ret (v := .tuple #[.agg #[.slice a d.safe.length cap, .slice b d.writes.length bcap], .int .i64 2]) (by simp [results, Tryz.results74, go_sem, hbc]) rfl ⟨_, rfl, hd2.out.below (by exact Zlo), hd2.out.same _, by exact Zlo⟩
theorem disk_Crash_good (d : Dsk) (x : Nat) (v : Value) (w : World) (hd : RDisk w v d) (hg : goodD d = true) (hx : x ≤ 9223372036854775807) :
    Calls Tryz.prog 74 #[v, .int .i64 (x : Int)] w fun e w' => ∃ v', e = .returned (.tuple #[v', .int .i64 0]) ∧ RDisk w' v' ⟨crashL d x d.safe.length, []⟩ ∧ NewD w.heap.size w' v v' d ⟨crashL d x d.safe.length, []⟩ ∧ Below w.heap.size w w' := by
  have hG := fun w (hh : RDisk w v d) => disk_Good d v w hh
  have hd2 := hd
  obtain ⟨vs, vw, rfl, hs, hw, n1, n2⟩ := hd
  obtain ⟨a, cap, rfl, ca1, ca2⟩ := hs.form
  obtain ⟨b, bcap, rfl, cb1, cb2⟩ := hw.form
  rw [hg] at hG
  obtain ⟨g1, g2, _, _⟩ := (goodD_iff d).1 hg
  clear hg
  have hC := fun v w (hh : RL strC w v d.safe) => clone_Strings d.safe v w hh n1
  have hset := fun (k : Nat) (hk : k < d.safe.length) => mixL_set d x hk
  have hlen := fun (k : Nat) (hk : k ≤ d.safe.length) => mixL_len d x hk
  have hget := fun (k : Nat) => crashAt_get d x k (Nat.mod_lt _ (textsAt_pos d k))
  have hpos := fun (k : Nat) => textsAt_pos d k
  have hle := fun (k : Nat) => textsAt_le d k
  have hdr := fun (k : Nat) => drawAt_le d x k
  have hds := fun (k : Nat) => drawAt_succ d x k
  have htx := fun (k : Nat) (hk : k < d.safe.length) => textsAt_eq d hk
  have hhit := fun (n k : Nat) (hn : n < d.safe.length) (hk : k < d.writes.length) => afterL_hit d.safe[n] n hk
  have hmiss := fun (n k : Nat) (hn : n < d.safe.length) (hk : k < d.writes.length) => afterL_miss d.safe[n] n hk
  have hal := fun (n k : Nat) (hn : n < d.safe.length) => afterL_len d.safe[n] n (d.writes.take k)
  have hm0 := mixL_zero d x
  have hmf := mixL_full d x
  have hcl := crashL_len d x d.safe.length
  replace hd2 := hid hd2; replace hG := hid hG; replace hC := hid hC; replace hs := hid hs; replace hw := hid hw; replace hset := hid hset; replace hlen := hid hlen
  replace hget := hid hget; replace hpos := hid hpos; replace hle := hid hle; replace hdr := hid hdr; replace hds := hid hds; replace htx := hid htx; replace hhit := hid hhit; replace hmiss := hid hmiss; replace hal := hid hal
  replace hm0 := hid hm0; replace hmf := hid hmf; replace hcl := hid hcl; replace g1 := hid g1
  go_enter Tryz.func74, Tryz.ntmps74
  go_wp2_with (first
    | (go_at_call 110; refine (hG.out _ (hd2.out.below (by exact Zlo))).mono ?_; rintro e w1 ⟨rfl, hb1⟩; obtain ⟨hbc, hbf⟩ := bcell hb1; have hbz := hb1.size; try simp only [World.size_alloc, World.size_setCell, World.size_drew] at hbz; have hz0 := Nat.lt_of_lt_of_le (n := w.heap.size) (by omega) hbz; have hz1 := Nat.lt_of_lt_of_le (n := w.heap.size + 1) (by omega) hbz)
    | (go_at_call 45; go_loud (refine (hC.out _ _ (hs.out.below (by exact Zlo))).mono ?_; rintro e w3 ⟨v3, rfl, hown3, hb3⟩; obtain ⟨a3, cap3, rfl⟩ := hown3.form; have k0 : Blk w3 w.heap.size #[.slice a d.safe.length cap, .slice b d.writes.length bcap] 46 := (((Blk.new w _ _).alloc _).step hb1).step hb3; have k1 : Blk w3 (w.heap.size + 1) #[.slice none 0 0, .slice none 0 0] 46 := ((Blk.newAt (w := w.alloc _) (by simp)).step hb1).step hb3; have hnx3 : Below w.heap.size w w3 := (by exact Zlo); have lt1 := k1.lt; have lt0 := k0.lt; have c0 := k0.cell 0; have c1 := k0.cell 1; simp only [Zga, Zgb, Zgc] at c0 c1; have og := fun g (hh : Value.ownBlock (.slice a3 d.safe.length cap3) = some g) => World.ownsRow.lt hown3 g hh; replace og := hid og; have lz := hb1.size; clear hbc hbf hbz hb1 hb3)))
  have hz1w : w.heap.size + 1 < w1.heap.size := by (try simp at lz); omega
  have o0 := hown3
  rw [← hm0.out] at o0
  go_loopw [1, 26] (fun s1 i wr => ∃ k : Nat, k ≤ d.safe.length ∧ i = .int .i64 k ∧ s1 = .int .i64 (drawAt d x k : Nat) ∧ Wb.Own strC w1.heap.size 9 1 wr (.slice a3 d.safe.length cap3) (mixL d x k) ∧ Blk wr w.heap.size #[.slice a d.safe.length cap, .slice b d.writes.length bcap] 46 ∧ Blk wr (w.heap.size + 1) #[.slice none 0 0, .slice none 0 0] 46 ∧ Blk wr w3.heap.size #[.slice a3 d.safe.length cap3, .slice none 0 0] 46 ∧ Below w.heap.size w wr) (fun _ i _ => d.safe.length - (intOf i).toNat)
  case atStart => exact ⟨0, Nat.zero_le _, rfl, rfl, o0.alloc _, k0.alloc _, k1.alloc _, Blk.new _ _ _, allocB hnx3 (by omega) _⟩
  case round =>
    clear k0 k1 hnx3 lt0 lt1 c0 c1 o0 hown3
    obtain ⟨wo, rfl⟩ : ∃ wo : World, wo = wr := ⟨_, rfl⟩
    obtain ⟨k, hk, rfl, rfl, hown, k0, k1, k2, hnx⟩ := hrel
    have lt0 := k0.lt
    have lt1 := k1.lt
    have lt2 := k2.lt
    have c0 := k0.cell 0
    have c1 := k0.cell 1
    have c2 := k1.cell 0
    have c3 := k1.cell 1
    have c4 := k2.cell 0
    have c5 := k2.cell 1
    simp only [Zga, Zgb, Zgc] at c0 c1 c2 c3 c4 c5
    by_cases hlt : k < d.safe.length
    · obtain ⟨b2, off, rfl, d0⟩ := RL.at1 (fun x => .string x) (fun _ => rfl) (hs.out.below hnx) hlt
      have ld := World.block_lt_of_cell? _ _ d0
      dsimp only at ld
      have hset := hset.out k hlt
      have hget := hget.out k
      have hpos := hpos.out k
      have hle := hle.out k
      have hdr := hdr.out k
      have hds := hds.out k
      have htx := htx.out k hlt
      have hhit := fun j hj => hhit.out k j hlt hj
      have hmiss := fun j hj => hmiss.out k j hlt hj
      have hal := fun j => hal.out k j hlt
      have hml := hlen.out k (by omega)
      generalize mixL d x k = M at *
      replace hset := hid hset; replace hget := hid hget; replace hds := hid hds; replace htx := hid htx; replace hhit := hid hhit; replace hmiss := hid hmiss; replace hal := hid hal; replace hml := hid hml; replace hpos := hid hpos; replace hle := hid hle
      obtain ⟨sk, hsk⟩ : ∃ sk, sk = d.safe[k] := ⟨_, rfl⟩
      rw [← hsk] at d0 htx hhit hmiss hal
      clear hsk
      generalize drawAt d x k = y at *
      go_wp2
      have kl : Blk (wo.alloc (.cells #[.string sk] 9)) wo.heap.size #[.string sk] 9 := Blk.new wo _ _
      go_loopw [8, 10, 38] (fun l _ i wi => ∃ j : Nat, j ≤ d.writes.length ∧ i = .int .i64 j ∧ Wb.Own strC wo.heap.size 9 1 wi l (afterL sk k (d.writes.take j)) ∧ Below wo.heap.size wo wi ∧ wo.heap.size < wi.heap.size) (fun _ _ i _ => d.writes.length - (intOf i).toNat)
      case atStart =>
        refine ⟨0, Nat.zero_le _, rfl, ?_, bal (b0 wo) _, by simp⟩
        rw [List.take_zero, afterL_nil]
        exact Own.lit (f := strC) strC_flat wo.heap.size 9 wo [sk] (by simp) (by show 1 ≤ maxLen; decide) rfl (by simp) rfl
      case round =>
        obtain ⟨j, hj, rfl, hl, hbi, hzi⟩ := hrel
        by_cases hlt2 : j < d.writes.length
        · obtain ⟨b3, off3, rfl, d1, d2⟩ := RL.at2 (fun x => .int .i64 x.at_) (fun x => .string x.text) (fun _ => rfl) ((hw.out.below hnx).below hbi) hlt2
          have ld3 := World.block_lt_of_cell? _ _ d1
          dsimp only at ld3
          by_cases heq : d.writes[j].at_ = k
          · have hh := hhit.out j hlt2 heq
            have hq := hal.out j
            rw [List.length_take] at hq
            have e1 : (d.writes[j].at_ == (k : Int)) = true := beq_iff_eq.2 heq
            replace hh := hid hh
            clear heq
            generalize d.writes[j] = xw at *
            generalize afterL sk k (d.writes.take j) = ls at *
            have hqq : ls.length ≤ 201 := by omega
            clear hq
            go_wp2_with (at_builtin; go_loud (refine wpList_push rfl _ _ _ rfl wo.heap.size _ 1 16 strC_flat elemStr (hl.alloc _) rfl xw.text rfl rfl ?c1 ?c2 ?c3 ?c4))
            all_goals try (case c1 => omega)
            all_goals try (case c2 => unfold maxLen; omega)
            all_goals try (case c3 => simp; omega)
            case c4 =>
              intro v7 w7 hown7 hbel7 _
              rw [← hh.out] at hown7
              have hz7 := hbel7.size
              go_wp2
              go_roundw
              case rel => exact ⟨j + 1, by omega, by go_num, hown7, (allocB hbi (by omega) _).trans (hbel7.mono (by omega)), by simp at hz7; omega⟩
              case measure => simp [intOf]; omega
          · have hh := hmiss.out j hlt2 heq
            have e1 : (d.writes[j].at_ == (k : Int)) = false := beq_eq_false_iff_ne.2 heq
            replace hh := hid hh
            clear heq
            generalize d.writes[j] = xw at *
            go_wp2
            go_roundw
            case rel => exact ⟨j + 1, by omega, by go_num, by rw [hh.out]; exact hl.alloc _, allocB hbi (by omega) _, by simp; omega⟩
            case measure => simp [intOf]; omega
        · rw [List.take_of_length_le (by omega), ← htx.out] at hl
          obtain ⟨al, capl, rfl⟩ := hl.form
          have k0 := k0.step hbi
          have k1 := k1.step hbi
          have k2 := k2.step hbi
          have hown := hown.below hbi
          have hnx := hnx.trans (hbi.mono (by omega))
          clear c0 c1 c2 c3 c4 c5 lt0 lt1 lt2 d0 ld kl
          have lt2 := k2.lt
          have c4 := k2.cell 0
          simp only [Zga, Zgb, Zgc] at c4
          replace hpos := hpos.out
          replace hle := hle.out
          replace hget := hget.out
          replace hds := hds.out
          have hmx := Nat.mod_lt y hpos
          have hmi : ((y : Int) % ((textsAt d k).length : Int)) = ((y % (textsAt d k).length : Nat) : Int) := rfl
          have hmt : ((y : Int).tmod ((textsAt d k).length : Int)) = ((y % (textsAt d k).length : Nat) : Int) := rfl
          have hdi : ((y : Int) / ((textsAt d k).length : Int)) = ((y / (textsAt d k).length : Nat) : Int) := rfl
          have hdt : ((y : Int).tdiv ((textsAt d k).length : Int)) = ((y / (textsAt d k).length : Nat) : Int) := rfl
          rw [← hds] at hdi hdt
          generalize hye : drawAt d x (k + 1) = y2 at *
          replace hye := hid hye
          obtain ⟨bl, offl, rfl, z0⟩ := RL.at1 (fun x => .string x) (fun _ => rfl) hl.reads hmx
          rw [hget] at z0
          clear hget
          replace hds := hid hds
          generalize y % (textsAt d k).length = q at *
          generalize crashAt d x k = t at *
          generalize textsAt d k = ls at *
          have hne0 : ((ls.length : Int) == 0) = false := beq_eq_false_iff_ne.2 (by omega)
          have hm := hml.out
          obtain ⟨g, cap4, hv, hgb, hgl, hgc, hpk⟩ := hown.poke strC_flat (k := k) (by omega)
          simp only [Value.slice.injEq] at hv
          obtain ⟨rfl, _, rfl⟩ := hv
          obtain ⟨z2, z3⟩ := hgc 0 (by decide)
          replace hpk := hpk 0 t (.string t) (by decide) rfl
          rw [hset.out, Nat.mul_one, Nat.add_zero] at hpk
          simp only [Nat.mul_one, Nat.add_zero, strC, List.getElem?_cons_zero] at z2 z3
          replace hpk := hid hpk
          have hne := og.out g rfl
          have hm3 : k < M.length := by omega
          obtain ⟨old, hold⟩ : ∃ o, M[k] = o := ⟨_, rfl⟩
          rw [hold] at z3
          clear hold hm hown hgc hm3
          have hq2 : (q : Int) < (ls.length : Int) := by omega
          have hk2 : (k : Int) < (d.safe.length : Int) := by omega
          have lz0 := World.block_lt_of_cell? _ _ z0
          dsimp only at lz0
          have hy0 : (y : Int) ≤ 9223372036854775807 := by omega
          have hys : y2 ≤ y := by rw [hds.out]; exact Nat.div_le_self _ _
          have hy2 : IntKind.i64.wrap (y2 : Int) = y2 := IntWalk.i64_in _ (by omega)
          go_wp2
          go_region
          all_goals
            go_wp2
            go_roundw
            case rel => exact ⟨k + 1, by omega, by go_num, by rw [hye.out], hpk.out, k0.drew.set_other _ _ (by simp; omega), k1.drew.set_other _ _ (by simp; omega), k2.drew.set_other _ _ (by simp; omega), hnx.drew.setCell (by simp; omega) _⟩
            case measure => simp [intOf]; omega
    · obtain rfl : k = d.safe.length := by omega
      rw [hmf.out] at hown
      have f1 := k1.free 0
      have f2 := k1.free 1
      have hcl2 := hcl.out
      go_wp2
      have hF : Below w.heap.size w ((wo.setCell ⟨w.heap.size + 1, 0, none⟩ (.slice a3 d.safe.length cap3)).setCell ⟨w.heap.size + 1, 1, none⟩ (.slice none 0 0)) := (hnx.setCell (by simp) _).setCell (by simp) _
      have ho := (hown.setCell (p := ⟨w.heap.size + 1, 0, none⟩) (by simp; omega) (.slice a3 d.safe.length cap3)).setCell (p := ⟨w.heap.size + 1, 1, none⟩) (by simp; omega) (.slice none 0 0)
      refine bodyPost_ret (v := .tuple #[.agg #[.slice a3 d.safe.length cap3, .slice none 0 0], .int .i64 0]) (by simp [results, Tryz.results74, go_sem, c2, c3]) rfl ⟨_, rfl, ⟨_, _, rfl, ho.reads, RL.nil _ _, by rw [hcl.out]; exact n1, by simp⟩, ⟨_, _, _, _, rfl, rfl, ho.slot (by omega), .nil⟩, hF⟩
theorem disk_CrashN (d : Dsk) (draw : Int) (v : Value) (w : World) (hd : RDisk w v d) (hx : draw ≤ 9223372036854775807) :
    Calls Tryz.prog 74 #[v, .int .i64 draw] w fun e w' => ∃ v', e = .returned (.tuple #[v', .int .i64 (crashE d draw)]) ∧ RDisk w' v' (crashD d draw) ∧ NewD w.heap.size w' v v' d (crashD d draw) ∧ Below w.heap.size w w' := by
  by_cases h : goodD d = true ∧ 0 ≤ draw
  · obtain ⟨hg, h0⟩ := h
    have he : crashE d draw = 0 := by unfold crashE; rw [if_pos ⟨hg, h0⟩]
    have hv : crashD d draw = ⟨crashL d draw.toNat d.safe.length, []⟩ := by unfold crashD; rw [if_pos ⟨hg, h0⟩]
    rw [he, hv]
    have := disk_Crash_good d draw.toNat v w hd hg (by omega)
    rwa [Int.toNat_of_nonneg h0] at this
  · exact disk_Crash_bad d draw v w hd h
end Go.Proofs.YtjhmfljlclajnacGreatDoor
namespace Go.Proofs.YtjhmfljlclajnacGreatDoor
open Go.RowKit Wb
set_option maxRecDepth 100000
set_option maxHeartbeats 4000000
theorem disk_Read (d : Dsk) (n : Int) (v : Value) (w : World) (hd : RDisk w v d) :
    Calls Tryz.prog 67 #[v, .int .i64 n] w fun e w' => e = .returned (.tuple #[.string (readD d n), .int .i64 (readE d n)]) ∧ Below w.heap.size w w' := by
  have hG := fun w (hh : RDisk w v d) => disk_Good d v w hh
  have hA := fun w => disk_at n w
  have hd2 := hd
  obtain ⟨vs, vw, rfl, hs, hw, n1, n2⟩ := hd
  obtain ⟨a, cap, rfl, _⟩ := hs.form
  obtain ⟨b, bcap, rfl, _⟩ := hw.form
  replace hd2 := hid hd2
  by_cases hg : goodD d = true
  · rw [hg] at hG
    by_cases ha : isAt n = true
    · rw [ha] at hA
      have hr : readD d n = lastT (safeAt d n) n (d.writes.take d.writes.length) := by unfold readD; rw [if_pos ⟨hg, ha⟩, List.take_length]
      have he : readE d n = 0 := by unfold readE; rw [if_pos ⟨hg, ha⟩]
      rw [he]
      obtain ⟨g1, g2, _, _⟩ := (goodD_iff d).1 hg
      obtain ⟨h0, h1⟩ : 0 ≤ n ∧ n < 37 := of_decide_eq_true ha
      obtain ⟨m, rfl⟩ : ∃ m : Nat, n = m := ⟨n.toNat, by omega⟩
      have hm : m < d.safe.length := by omega
      have hsf : safeAt d m = d.safe[m] := by simp [safeAt, hm]
      rw [hsf] at hr
      clear hg ha he hsf
      generalize readD d m = r at *
      obtain ⟨safe, writes⟩ := d
      dsimp only at *
      have hlast := fun (k : Nat) (hk : k < writes.length) => lastT_hit safe[m] m hk
      have hmiss := fun (k : Nat) (hk : k < writes.length) => lastT_miss safe[m] m hk
      have hl0 := lastT_nil safe[m] m
      have hm3 : m < safe.length := hm
      replace hs := hid hs
      replace hw := hid hw
      replace hG := hid hG
      replace hA := hid hA
      replace hr := hid hr
      replace g1 := hid g1
      replace hlast := hid hlast
      replace hmiss := hid hmiss
      replace hl0 := hid hl0
      replace hm3 := hid hm3
      go_enter Tryz.func67, Tryz.ntmps67
      go_wp2_with (first
        | (go_at_call 110; refine (hG.out _ (hd2.out.below (by exact Zlo))).mono ?_; rintro e w1 ⟨rfl, hb1⟩; obtain ⟨hbc, hbf⟩ := bcell hb1; have hbz := hb1.size; try simp only [World.size_alloc, World.size_setCell, World.size_drew] at hbz; have hz0 := Nat.lt_of_lt_of_le (n := w.heap.size) (by omega) hbz)
        | (go_at_call 111; refine (hA.out _).mono ?_; rintro e w2 ⟨rfl, rfl⟩))
      have kb : Blk w1 w.heap.size #[.slice a safe.length cap, .slice b writes.length bcap] 46 := (Blk.new w _ _).step hb1
      have hnx : Below w.heap.size w w1 := by exact Zlo
      clear hb1 hbc hbf
      have lt0 := kb.lt
      have c0 := kb.cell 0
      have c1 := kb.cell 1
      simp only [Zga, Zgb, Zgc] at c0 c1
      go_loop [6] (fun i => ∃ k : Nat, k ≤ writes.length ∧ i = .int .i64 ((k : Int) - 1) ∧ Hid (r = lastT safe[m] m (writes.take k))) (fun i => (intOf i + 1).toNat)
      case atStart => exact ⟨writes.length, Nat.le_refl _, rfl, hr.out⟩
      case round =>
        obtain ⟨k, hk, rfl, hrk⟩ := hrel
        rcases Nat.eq_zero_or_pos k with hk0 | hk0
        · subst hk0
          obtain ⟨b2, off, rfl, d0⟩ := RL.at1 (fun x => .string x) (fun _ => rfl) (hs.out.below hnx) hm3.out
          have hrs : r = safe[m] := by rw [hrk.out, List.take_zero]; exact hl0.out
          replace hrs := hid hrs
          clear hrk
          generalize safe[m] = sm at *
          go_wp2
          go_ret2
          exact ⟨ret_st hrs.out.symm, hnx⟩
        · obtain ⟨j, rfl⟩ : ∃ j, k = j + 1 := ⟨k - 1, by omega⟩
          have hj : j < writes.length := by omega
          obtain ⟨b2, off, rfl, d0, d1⟩ := RL.at2 (fun x => .int .i64 x.at_) (fun x => .string x.text) (fun _ => rfl) (hw.out.below hnx) hj
          by_cases heq : writes[j].at_ = m
          · have hrs : r = writes[j].text := by rw [hrk.out]; exact hlast.out j hj heq
            replace hrs := hid hrs
            have e1 : (writes[j].at_ == (m : Int)) = true := beq_iff_eq.2 heq
            clear hrk heq
            generalize writes[j] = x at *
            go_wp2
            go_ret2
            exact ⟨ret_st hrs.out.symm, hnx⟩
          · have hrs : r = lastT safe[m] m (writes.take j) := by rw [hrk.out]; exact hmiss.out j hj heq
            replace hrs := hid hrs
            have e1 : (writes[j].at_ == (m : Int)) = false := beq_eq_false_iff_ne.2 heq
            clear hrk heq
            generalize writes[j] = x at *
            go_wp2
            go_round
            case rel => exact ⟨j, by omega, by go_num, hrs⟩
            case measure => simp [intOf]
    · have hr : readD d n = ⟨#[]⟩ := by unfold readD; rw [if_neg (fun hh => ha hh.2)]
      have he : readE d n = 2 := by unfold readE; rw [if_neg (fun hh => ha hh.2)]
      rw [hr, he]
      rw [Bool.not_eq_true _ |>.mp ha] at hA
      clear hs hw ha hg hr he
      replace hG := hid hG
      replace hA := hid hA
      go_enter Tryz.func67, Tryz.ntmps67
      go_wp2_with (first
        | (go_at_call 110; refine (hG.out _ (hd2.out.below (by exact Zlo))).mono ?_; rintro e w1 ⟨rfl, hb1⟩; obtain ⟨hbc, hbf⟩ := bcell hb1; have hbz := hb1.size; try simp only [World.size_alloc, World.size_setCell, World.size_drew] at hbz; have hz0 := Nat.lt_of_lt_of_le (n := w.heap.size) (by omega) hbz)
        | (go_at_call 111; refine (hA.out _).mono ?_; rintro e w2 ⟨rfl, rfl⟩))
      go_ret2
      exact ⟨rfl, by exact Zlo⟩
  · have hr : readD d n = ⟨#[]⟩ := by unfold readD; rw [if_neg (fun hh => hg hh.1)]
    have he : readE d n = 2 := by unfold readE; rw [if_neg (fun hh => hg hh.1)]
    rw [hr, he]
    rw [Bool.not_eq_true _ |>.mp hg] at hG
    clear hs hw hg hr he
    replace hG := hid hG
    go_enter Tryz.func67, Tryz.ntmps67
    go_wp2_with (go_at_call 110; refine (hG.out _ (hd2.out.below (by exact Zlo))).mono ?_; rintro e w1 ⟨rfl, hb1⟩; obtain ⟨hbc, hbf⟩ := bcell hb1; have hbz := hb1.size; try simp only [World.size_alloc, World.size_setCell, World.size_drew] at hbz; have hz0 := Nat.lt_of_lt_of_le (n := w.heap.size) (by omega) hbz)
    go_ret2
    exact ⟨rfl, by exact Zlo⟩
end Go.Proofs.YtjhmfljlclajnacGreatDoor
namespace Go.Proofs.YtjhmfljlclajnacGreatDoor
open Go.RowKit Wb
set_option maxRecDepth 100000
theorem takeE_bad {r : Ring} {n : Int} (h : goodR r = false ∨ n < 0) : takeE r n = 2 := by unfold takeE; rw [if_pos h]
theorem takeE_full {r : Ring} {n : Int} (h : ¬ (goodR r = false ∨ n < 0)) (h2 : n > 24 - r.used) : takeE r n = 6 := by unfold takeE; rw [if_neg h, if_pos h2]
theorem takeE_ok {r : Ring} {n : Int} (h : ¬ (goodR r = false ∨ n < 0)) (h2 : ¬ n > 24 - r.used) : takeE r n = 0 := by unfold takeE; rw [if_neg h, if_neg h2]
theorem takeR_bad {r : Ring} {n : Int} (h : takeE r n ≠ 0) : takeR r n = r := by unfold takeR; rw [if_neg h]
theorem takeL_bad {r : Ring} {n : Int} (h : takeE r n ≠ 0) : takeL r n = [] := by unfold takeL; rw [if_neg h]
theorem takeR_ok {r : Ring} {n : Int} (h : takeE r n = 0) : takeR r n = ⟨(r.head + n) % 24, r.used + n⟩ := by unfold takeR; rw [if_pos h]
theorem takeL_ok {r : Ring} {n : Int} (h : takeE r n = 0) : takeL r n = places r.head n.toNat := by unfold takeL; rw [if_pos h]
theorem ring_Take (r : Ring) (n : Int) (w : World) :
    Calls Tryz.prog 119 #[r.val, .int .i64 n] w fun e w' =>
      ∃ v, e = .returned (.tuple #[(takeR r n).val, v, .int .i64 (takeE r n)]) ∧ Wb.Own intC w.heap.size 3 1 w' v (takeL r n) ∧ Below w.heap.size w w' := by
  obtain ⟨p, u⟩ := r
  have hG := fun w => ring_Good ⟨p, u⟩ w
  have hgi := goodR_iff ⟨p, u⟩
  by_cases hb : goodR ⟨p, u⟩ = false ∨ n < 0
  · rw [takeR_bad (by rw [takeE_bad hb]; decide), takeL_bad (by rw [takeE_bad hb]; decide), takeE_bad hb]
    clear hgi
    generalize goodR ⟨p, u⟩ = g at *
    replace hG := hid hG
    unfold Ring.val at *
    dsimp only at *
    cases g
    · clear hb
      go_enter Tryz.func119, Tryz.ntmps119
      go_wp2_with (go_at_call 28; refine (hG.out _).mono ?_; rintro e w1 ⟨rfl, hb1⟩; obtain ⟨hbc, hbf⟩ := bcell hb1; have hbz := hb1.size; try simp only [World.size_alloc, World.size_setCell, World.size_drew] at hbz; have hz0 := Nat.lt_of_lt_of_le (n := w.heap.size) (by omega) hbz; have hz1 := Nat.lt_of_lt_of_le (n := w.heap.size + 1) (by omega) hbz)
      exact bodyPost_ret (v := .tuple #[.agg #[.int .i64 p, .int .i64 u], .slice none 0 0, .int .i64 2]) (by simp [results, Tryz.results119, go_sem, hbc]) rfl ⟨_, rfl, Own.nil _ _ _ _ _, by exact Zlo⟩
    · replace hb : n < 0 := by simpa using hb
      go_enter Tryz.func119, Tryz.ntmps119
      go_wp2_with (go_at_call 28; refine (hG.out _).mono ?_; rintro e w1 ⟨rfl, hb1⟩; obtain ⟨hbc, hbf⟩ := bcell hb1; have hbz := hb1.size; try simp only [World.size_alloc, World.size_setCell, World.size_drew] at hbz; have hz0 := Nat.lt_of_lt_of_le (n := w.heap.size) (by omega) hbz; have hz1 := Nat.lt_of_lt_of_le (n := w.heap.size + 1) (by omega) hbz)
      exact bodyPost_ret (v := .tuple #[.agg #[.int .i64 p, .int .i64 u], .slice none 0 0, .int .i64 2]) (by simp [results, Tryz.results119, go_sem, hbc]) rfl ⟨_, rfl, Own.nil _ _ _ _ _, by exact Zlo⟩
  · obtain ⟨hg, hn⟩ : goodR ⟨p, u⟩ = true ∧ 0 ≤ n := by simpa using hb
    obtain ⟨g1, g2, g3, g4⟩ := hgi.1 hg
    dsimp only at g1 g2 g3 g4
    rw [hg] at hG
    have hF := fun w => ring_Free ⟨p, u⟩ w g3 g4
    replace hG := hid hG
    replace hF := hid hF
    by_cases hs : n > 24 - u
    · rw [takeR_bad (by rw [takeE_full hb hs]; decide), takeL_bad (by rw [takeE_full hb hs]; decide), takeE_full hb hs]
      clear hgi hb hg
      unfold Ring.val at *
      dsimp only at *
      go_enter Tryz.func119, Tryz.ntmps119
      go_wp2_with (first | (go_at_call 28; refine (hG.out _).mono ?_; rintro e w1 ⟨rfl, hb1⟩; obtain ⟨hbc, hbf⟩ := bcell hb1; have hbz := hb1.size; try simp only [World.size_alloc, World.size_setCell, World.size_drew] at hbz; have hz0 := Nat.lt_of_lt_of_le (n := w.heap.size) (by omega) hbz; have hz1 := Nat.lt_of_lt_of_le (n := w.heap.size + 1) (by omega) hbz) | (go_at_call 33; refine (hF.out _).mono ?_; rintro e w2 ⟨rfl, hb1⟩; obtain ⟨hbc, hbf⟩ := bcell hb1; have hbz := hb1.size; try simp only [World.size_alloc, World.size_setCell, World.size_drew] at hbz; have hz0 := Nat.lt_of_lt_of_le (n := w.heap.size) (by omega) hbz; have hz1 := Nat.lt_of_lt_of_le (n := w.heap.size + 1) (by omega) hbz))
      exact bodyPost_ret (v := .tuple #[.agg #[.int .i64 p, .int .i64 u], .slice none 0 0, .int .i64 6]) (by simp [results, Tryz.results119, go_sem, *]) rfl ⟨_, rfl, Own.nil _ _ _ _ _, by exact Zlo⟩
    · rw [takeR_ok (takeE_ok hb hs), takeL_ok (takeE_ok hb hs), takeE_ok hb hs]
      clear hgi hb hg
      unfold Ring.val at *
      dsimp only at *
      go_enter Tryz.func119, Tryz.ntmps119
      go_wp2_with (first | (go_at_call 28; refine (hG.out _).mono ?_; rintro e w1 ⟨rfl, hb1⟩; obtain ⟨hbc, hbf⟩ := bcell hb1; have hbz := hb1.size; try simp only [World.size_alloc, World.size_setCell, World.size_drew] at hbz; have hz0 := Nat.lt_of_lt_of_le (n := w.heap.size) (by omega) hbz; have hz1 := Nat.lt_of_lt_of_le (n := w.heap.size + 1) (by omega) hbz) | (go_at_call 33; refine (hF.out _).mono ?_; rintro e w2 ⟨rfl, hb1⟩; obtain ⟨hbc, hbf⟩ := bcell hb1; have hbz := hb1.size; try simp only [World.size_alloc, World.size_setCell, World.size_drew] at hbz; have hz0 := Nat.lt_of_lt_of_le (n := w.heap.size) (by omega) hbz; have hz1 := Nat.lt_of_lt_of_le (n := w.heap.size + 1) (by omega) hbz))
      have k1 : Blk w2 w.heap.size #[.int .i64 p, .int .i64 u] 26 := (((Blk.new w _ _).alloc _).step (by assumption)).step (by assumption)
      have k2 : Blk w2 (w.heap.size + 1) #[.int .i64 0, .int .i64 0] 26 := ((Blk.newAt (w := w.alloc _) (by simp)).step (by assumption)).step (by assumption)
      have hw2 : Below w.heap.size w w2 := by exact Zlo
      clear hbc hbf
      go_loopw [7, 22] (fun l i wr => ∃ k : Nat, (k : Int) ≤ n ∧ i = .int .i64 k ∧ Wb.Own intC (w.heap.size + 2) 3 1 wr l (places p k) ∧ Blk wr w.heap.size #[.int .i64 ((p + k) % 24), .int .i64 u] 26 ∧ Blk wr (w.heap.size + 1) #[.int .i64 0, .int .i64 0] 26 ∧ Below w.heap.size w wr ∧ w.heap.size + 1 < wr.heap.size) (fun _ i _ => (n - intOf i).toNat)
      case atStart => exact ⟨0, by omega, rfl, Own.nil _ _ _ _ _, by rw [show (p + ((0 : Nat) : Int)) % 24 = p by omega]; exact k1, k2, hw2, by omega⟩
      case round =>
        obtain ⟨k, hk, rfl, hown, b1, b2, hnx, hz⟩ := hrel
        have hz0 : w.heap.size < wr.heap.size := by omega
        have c0 := b1.cell 0
        have c1 := b1.cell 1
        have f0 := b1.free 0
        have f1 := b1.free 1
        simp only [List.getElem?_toArray, List.getElem?_cons_zero, List.getElem?_cons_succ] at c0 c1
        by_cases hlt : (k : Int) < n
        · go_wp2_with (at_builtin; go_loud (refine wpList_push rfl _ _ _ rfl (w.heap.size + 2) _ 1 8 intC_flat elemInt hown rfl ((p + k) % 24) rfl rfl ?c1 ?c2 ?c3 ?c4))
          case c1 => rw [places_len]; omega
          case c2 => rw [places_len]; unfold maxLen; omega
          case c3 => omega
          case c4 =>
            intro v' w' hown' hbel hgrow
            rw [← places_succ] at hown'
            have b1' := b1.below hbel (by omega)
            have b2' := b2.below hbel (by omega)
            have hnx' := hnx.trans (hbel.mono (by omega))
            have hz' := hbel.size
            have c0' := b1'.cell 0
            have f0' := b1'.free 0
            simp only [List.getElem?_toArray, List.getElem?_cons_zero, List.getElem?_cons_succ] at c0'
            go_wp2
            go_roundw
            case rel =>
              refine ⟨k + 1, by omega, by go_num, hown'.setCell (by simp) _, ?_, b2'.set_other _ _ (by simp), hnx'.setCell (Nat.le_refl _) _, by simp; omega⟩
              have hbb := b1'.set 0 (.int .i64 ((p + k + 1) % 24))
              rw [show (p + ((k + 1 : Nat) : Int)) = p + k + 1 by omega]
              simpa using hbb
            case measure => simp [intOf]; omega
        · have c2 := b2.cell 0
          have c3 := b2.cell 1
          have f2 := b2.free 0
          have f3 := b2.free 1
          simp only [List.getElem?_toArray, List.getElem?_cons_zero, List.getElem?_cons_succ] at c2 c3
          go_wp2
          obtain rfl : n = k := by omega
          refine bodyPost_ret (v := .tuple #[.agg #[.int .i64 ((p + k) % 24), .int .i64 (u + k)], u7, .int .i64 0]) (by simp [results, Tryz.results119, go_sem, c0, c1, c2, c3]) rfl ⟨_, rfl, ?_, ?_⟩
          · rw [Int.toNat_natCast]
            exact (((hown.setCell (by simp) _).setCell (by simp) _).setCell (by simp) _).mono (by omega)
          · exact Zlo
theorem ring_Give (r : Ring) (n : Int) (w : World) :
    Calls Tryz.prog 81 #[r.val, .int .i64 n] w fun e w' =>
      e = .returned (.tuple #[(giveR r n).val, .int .i64 (giveE r n)]) ∧ Below w.heap.size w w' := by
  obtain ⟨p, u⟩ := r
  have hG := fun w => ring_Good ⟨p, u⟩ w
  have hgi := goodR_iff ⟨p, u⟩
  by_cases hb : goodR ⟨p, u⟩ = false ∨ n < 0 ∨ n > u
  · have e1 : giveE ⟨p, u⟩ n = 2 := by unfold giveE; rw [if_pos hb]
    have e2 : giveR ⟨p, u⟩ n = ⟨p, u⟩ := by unfold giveR; rw [e1]; rfl
    rw [e1, e2]
    clear hgi e1 e2
    generalize goodR ⟨p, u⟩ = g at *
    replace hG := hid hG
    unfold Ring.val at *
    dsimp only at *
    cases g
    · clear hb
      go_enter Tryz.func81, Tryz.ntmps81
      go_wp2_with (go_at_call 28; refine (hG.out _).mono ?_; rintro e w1 ⟨rfl, hb1⟩; obtain ⟨hbc, hbf⟩ := bcell hb1; have hbz := hb1.size; try simp only [World.size_alloc, World.size_setCell, World.size_drew] at hbz; have hz0 := Nat.lt_of_lt_of_le (n := w.heap.size) (by omega) hbz; have hz1 := Nat.lt_of_lt_of_le (n := w.heap.size + 1) (by omega) hbz)
      exact bodyPost_ret (v := .tuple #[.agg #[.int .i64 p, .int .i64 u], .int .i64 2]) (by simp [results, Tryz.results81, go_sem, hbc]) rfl ⟨rfl, by exact Zlo⟩
    · replace hb : n < 0 ∨ u < n := by simpa using hb
      by_cases hn : n < 0
      all_goals
        go_enter Tryz.func81, Tryz.ntmps81
        go_wp2_with (go_at_call 28; refine (hG.out _).mono ?_; rintro e w1 ⟨rfl, hb1⟩; obtain ⟨hbc, hbf⟩ := bcell hb1; have hbz := hb1.size; try simp only [World.size_alloc, World.size_setCell, World.size_drew] at hbz; have hz0 := Nat.lt_of_lt_of_le (n := w.heap.size) (by omega) hbz; have hz1 := Nat.lt_of_lt_of_le (n := w.heap.size + 1) (by omega) hbz)
        exact bodyPost_ret (v := .tuple #[.agg #[.int .i64 p, .int .i64 u], .int .i64 2]) (by simp [results, Tryz.results81, go_sem, hbc]) rfl ⟨rfl, by exact Zlo⟩
  · have e1 : giveE ⟨p, u⟩ n = 0 := by unfold giveE; rw [if_neg hb]
    have e2 : giveR ⟨p, u⟩ n = ⟨p, u - n⟩ := by unfold giveR; rw [e1]; rfl
    rw [e1, e2]
    obtain ⟨hg, hn, hn2⟩ : goodR ⟨p, u⟩ = true ∧ 0 ≤ n ∧ n ≤ u := by simpa using hb
    obtain ⟨g1, g2, g3, g4⟩ := hgi.1 hg
    dsimp only at g1 g2 g3 g4
    rw [hg] at hG
    replace hG := hid hG
    clear hgi hb hg e1 e2
    unfold Ring.val at *
    dsimp only at *
    go_enter Tryz.func81, Tryz.ntmps81
    go_wp2_with ((go_at_call 28; refine (hG.out _).mono ?_; rintro e w1 ⟨rfl, hb1⟩; obtain ⟨hbc, hbf⟩ := bcell hb1; have hbz := hb1.size; try simp only [World.size_alloc, World.size_setCell, World.size_drew] at hbz; have hz0 := Nat.lt_of_lt_of_le (n := w.heap.size) (by omega) hbz; have hz1 := Nat.lt_of_lt_of_le (n := w.heap.size + 1) (by omega) hbz); have c0 : w1.cell? ⟨w.heap.size, 0, none⟩ = some (.int .i64 p) := Blk.cell (((Blk.new w _ _).alloc _).step hb1) 0; have c1 : w1.cell? ⟨w.heap.size, 1, none⟩ = some (.int .i64 u) := Blk.cell (((Blk.new w _ _).alloc _).step hb1) 1; have c2 : w1.cell? ⟨w.heap.size + 1, 0, none⟩ = some (.int .i64 0) := Blk.cell ((Blk.newAt (w := w.alloc _) (by simp)).step hb1) 0; have c3 : w1.cell? ⟨w.heap.size + 1, 1, none⟩ = some (.int .i64 0) := Blk.cell ((Blk.newAt (w := w.alloc _) (by simp)).step hb1) 1; clear hbc)
    exact bodyPost_ret (v := .tuple #[.agg #[.int .i64 p, .int .i64 (u - n)], .int .i64 0]) (by simp [results, Tryz.results81, go_sem, c0, c1, c2, c3, hbf]) rfl ⟨rfl, by exact Zlo⟩
end Go.Proofs.YtjhmfljlclajnacGreatDoor
namespace Go.Proofs.YtjhmfljlclajnacGreatDoor
open Go.RowKit Wb
set_option maxRecDepth 100000
set_option maxHeartbeats 16000000
theorem Zstp {A : Prop} (h : A := by
  go_enter Tryz.func85, Tryz.ntmps85
  go_wp2_with (first
    | (refine ZcL ?_) | (refine ZcS ?_; clear X; intro w X) | (refine ZcA ?_; clear X; intro g w X)
    | (go_at_call 30; go_loud ((with_reducible refine (hG.out _ X.below).mono ?_); rintro e w1 ⟨rfl, hb1⟩; replace X := X.call hb1; clear hb1))
    | (go_at_call 126; go_loud ((with_reducible refine (hH.out _).mono ?_); rintro e w1 ⟨rfl, rfl⟩)))
  exact m_ret2 rfl (.tmp rfl rfl) (.tmp rfl rfl) X (.head _) rfl rfl ⟨by rw [hv.out.1, hv.out.2] <;> (try rfl), X.below⟩) : A := h
theorem txn_Stop (t : Txn) (h : Int) (vm vd vr : Value) (w : World) (ht : RTxn w (txnV t vm vd vr) t) :
    Calls Tryz.prog 85 #[txnV t vm vd vr, .int .i64 h] w fun e w' => e = .returned (.tuple #[txnV (stopT t h) vm vd vr, .int .i64 (stopE t h)]) ∧ Below w.heap.size w w' := by
  have hG0 := fun w' (hh : Below w.heap.size w w') => txn_Good t _ w' (ht.below hh)
  obtain ⟨vm', vd', vr', hvv, hm, hd, hr, n1, n2, n3⟩ := ht
  simp only [txnV, Value.agg.injEq, Array.mk.injEq, List.cons.injEq, and_true, true_and] at hvv
  obtain ⟨rfl, rfl, rfl⟩ := hvv
  obtain ⟨am, cm, rfl, _⟩ := hm.form
  obtain ⟨ad, cd, rfl, _⟩ := hd.form
  obtain ⟨ar, cr, rfl, _⟩ := hr.form
  have hH := fun w => txn_handle h w
  obtain ⟨seq, mt, dt, rev, ⟨o0, l0⟩, ⟨o1, l1⟩, ⟨o2, l2⟩⟩ := t
  unfold txnV at hG0 ⊢
  dsimp only at *
  have X := St.start [] w
  clear hm hd hr
  cases hg : goodT ⟨seq, mt, dt, rev, ⟨o0, l0⟩, ⟨o1, l1⟩, ⟨o2, l2⟩⟩ with
  | false =>
    have hv := hid (stop_bad (h := h) hg)
    have hG := fun w' hh => hG0 w' hh
    rw [hg] at hG
    replace hG := hid hG; replace hH := hid hH
    clear hg hG0
    exact Zstp
  | true =>
    have hG := fun w' hh => hG0 w' hh
    rw [hg] at hG
    replace hG := hid hG
    clear hG0
    by_cases hh : 0 ≤ h ∧ h ≤ 2
    rotate_left
    · have hv := hid (stop_none hg (.inl hh))
      have hhf : isHnd h = false := decide_eq_false (by omega)
      rw [hhf] at hH
      replace hH := hid hH
      clear hhf hg
      by_cases hneg : h < 0
      · clear hh
        exact Zstp
      · have hgt : 2 < h := by omega
        clear hh
        exact Zstp
    have hht : isHnd h = true := decide_eq_true (by omega)
    rw [hht] at hH
    replace hH := hid hH
    clear hht
    obtain (rfl | rfl | rfl) : h = 0 ∨ h = 1 ∨ h = 2 := by omega
    · cases o0 with
      | false =>
        have hv := hid (stop_none (h := 0) hg (.inr (by simp [getH])))
        clear hg hh
        exact Zstp
      | true =>
        have hv := hid (stop_ok (h := 0) hg (by decide) (by simp [getH]))
        clear hg hh
        exact Zstp
    · cases o1 with
      | false =>
        have hv := hid (stop_none (h := 1) hg (.inr (by simp [getH])))
        clear hg hh
        exact Zstp
      | true =>
        have hv := hid (stop_ok (h := 1) hg (by decide) (by simp [getH]))
        clear hg hh
        exact Zstp
    · cases o2 with
      | false =>
        have hv := hid (stop_none (h := 2) hg (.inr (by simp [getH])))
        clear hg hh
        exact Zstp
      | true =>
        have hv := hid (stop_ok (h := 2) hg (by decide) (by simp [getH]))
        clear hg hh
        exact Zstp
theorem Zbgp {A : Prop} (h : A := by
  go_enter Tryz.func84, Tryz.ntmps84
  go_upto_region 1 with (first
    | (refine Zbx ?_; clear X; intro g w X)
    | (refine ZyL ?_) | (refine ZyS ?_; clear X; intro w X) | (refine ZyA ?_; clear X; intro g w X))
  go_wp2_with (first
    | go_skip
    | (refine ZyL ?_) | (refine ZyS ?_; clear X; intro w X) | (refine ZyA ?_; clear X; intro g w X)
    | (go_at_call 30; go_loud ((with_reducible refine (hG.out _ X.below).mono ?_); rintro e w1 ⟨rfl, hb1⟩; replace X := X.call hb1; clear hb1))
    | (go_at_call 126; go_loud ((with_reducible refine (hH.out _).mono ?_); rintro e w1 ⟨rfl, rfl⟩))
    | (go_at_call 32; go_loud ((with_reducible refine (hA.out _ X.below).mono ?_); rintro e w1 ⟨rfl, hb1⟩; replace X := X.call hb1; clear hb1))
    | (go_at_call 31; go_loud ((with_reducible refine (hM.out _).mono ?_); rintro e w1 ⟨rfl, rfl⟩)))
  exact m_ret2 rfl (.tmp rfl rfl) (.tmp rfl rfl) X (.head _) rfl rfl ⟨by rw [hv.out.1, hv.out.2] <;> (try rfl), X.below⟩) : A := h
theorem txn_Begin (t : Txn) (h nn fr : Int) (vm vd vr : Value) (w : World) (ht : RTxn w (txnV t vm vd vr) t) :
    Calls Tryz.prog 84 #[txnV t vm vd vr, .int .i64 h, .int .i64 nn, .int .i64 fr] w fun e w' => e = .returned (.tuple #[txnV (begT t h nn fr) vm vd vr, .int .i64 (begE t h nn fr)]) ∧ Below w.heap.size w w' := by
  have hG0 := fun w' (hh : Below w.heap.size w w') => txn_Good t _ w' (ht.below hh)
  have hA := fun w' (hh : Below w.heap.size w w') => txn_Asked t _ w' (ht.below hh)
  obtain ⟨vm', vd', vr', hvv, hm, hd, hr, n1, n2, n3⟩ := ht
  simp only [txnV, Value.agg.injEq, Array.mk.injEq, List.cons.injEq, and_true, true_and] at hvv
  obtain ⟨rfl, rfl, rfl⟩ := hvv
  obtain ⟨am, cm, rfl, _⟩ := hm.form
  obtain ⟨ad, cd, rfl, _⟩ := hd.form
  obtain ⟨ar, cr, rfl, _⟩ := hr.form
  have hH := fun w => txn_handle h w
  have hM := fun w => ring_Most (askedI t + nn) w
  have hAb := fun (h : goodT t = true) => asked_low h (by omega) (by omega)
  obtain ⟨seq, mt, dt, rev, ⟨o0, l0⟩, ⟨o1, l1⟩, ⟨o2, l2⟩⟩ := t
  unfold txnV at hG0 hA ⊢
  dsimp only at *
  have X := St.start [] w
  clear hm hd hr
  cases hg : goodT ⟨seq, mt, dt, rev, ⟨o0, l0⟩, ⟨o1, l1⟩, ⟨o2, l2⟩⟩ with
  | false =>
    have hv := hid (beg_bad (h := h) (n := nn) (free := fr) hg)
    have hG := fun w' hh => hG0 w' hh
    rw [hg] at hG
    replace hG := hid hG; replace hH := hid hH
    clear hg hG0 hM hA hAb
    exact Zbgp
  | true =>
    have hG := fun w' hh => hG0 w' hh
    rw [hg] at hG
    replace hG := hid hG
    clear hG0
    by_cases hh : 0 ≤ h ∧ h ≤ 2
    rotate_left
    · have hv := hid (beg_none (n := nn) (free := fr) hg hh)
      have hhf : isHnd h = false := decide_eq_false (by omega)
      rw [hhf] at hH
      replace hH := hid hH
      clear hhf hg hM hA hAb
      by_cases hneg : h < 0
      · clear hh
        exact Zbgp
      · have hgt : 2 < h := by omega
        clear hh
        exact Zbgp
    have hht : isHnd h = true := decide_eq_true (by omega)
    rw [hht] at hH
    replace hH := hid hH
    clear hht
    obtain ⟨hA0, hA1⟩ := hAb hg
    clear hAb
    obtain ⟨A, hAA⟩ : ∃ A, askedI ⟨seq, mt, dt, rev, ⟨o0, l0⟩, ⟨o1, l1⟩, ⟨o2, l2⟩⟩ = A := ⟨_, rfl⟩
    rw [hAA] at hA hM hA0 hA1
    replace hA := hid hA
    obtain ⟨M, hMM⟩ : ∃ M, mostN (A + nn) = M := ⟨_, rfl⟩
    rw [hMM] at hM
    replace hM := hid hM
    obtain (rfl | rfl | rfl) : h = 0 ∨ h = 1 ∨ h = 2 := by omega
    · cases o0 with
      | true =>
        have hv := hid (beg_on (h := 0) (n := nn) (free := fr) hg (by decide) (by simp [getH]))
        clear hg hh hAA hMM hA0 hA1
        exact Zbgp
      | false =>
        by_cases hn : nn < 0 ∨ 12 < nn
        · have hv := hid (beg_far (h := 0) (n := nn) (free := fr) hg (by decide) (by simp [getH]) hn)
          clear hg hh hAA hMM hA0 hA1
          by_cases hneg : nn < 0
          · clear hn
            exact Zbgp
          · have hgt : 12 < nn := by omega
            clear hn
            exact Zbgp
        have hn0 : 0 ≤ nn := by omega
        have hn1 : nn ≤ 12 := by omega
        have hw : IntKind.i64.wrap (A + nn) = A + nn := IntWalk.i64_in _ (by omega)
        have hw' : RowKit.wrap64 (A + nn) = A + nn := by rw [w64]; exact hw
        by_cases hb : 24 < A + nn
        · have hv := hid (beg_full (h := 0) (free := fr) hg (by decide) (by simp [getH]) hn (.inl (by rw [hAA]; exact hb)))
          clear hg hh hAA hMM hn
          exact Zbgp
        have hbd : decide (24 < A + nn) = false := decide_eq_false hb
        by_cases hf : fr < M
        · have hv := hid (beg_full (h := 0) (free := fr) hg (by decide) (by simp [getH]) hn (.inr (by rw [hAA, hMM]; exact hf)))
          clear hg hh hAA hMM hn
          exact Zbgp
        · have hv := hid (beg_ok (h := 0) (free := fr) hg (by decide) (by simp [getH]) hn (by rw [hAA, hMM]; omega))
          clear hg hh hAA hMM hn
          exact Zbgp
    · cases o1 with
      | true =>
        have hv := hid (beg_on (h := 1) (n := nn) (free := fr) hg (by decide) (by simp [getH]))
        clear hg hh hAA hMM hA0 hA1
        exact Zbgp
      | false =>
        by_cases hn : nn < 0 ∨ 12 < nn
        · have hv := hid (beg_far (h := 1) (n := nn) (free := fr) hg (by decide) (by simp [getH]) hn)
          clear hg hh hAA hMM hA0 hA1
          by_cases hneg : nn < 0
          · clear hn
            exact Zbgp
          · have hgt : 12 < nn := by omega
            clear hn
            exact Zbgp
        have hn0 : 0 ≤ nn := by omega
        have hn1 : nn ≤ 12 := by omega
        have hw : IntKind.i64.wrap (A + nn) = A + nn := IntWalk.i64_in _ (by omega)
        have hw' : RowKit.wrap64 (A + nn) = A + nn := by rw [w64]; exact hw
        by_cases hb : 24 < A + nn
        · have hv := hid (beg_full (h := 1) (free := fr) hg (by decide) (by simp [getH]) hn (.inl (by rw [hAA]; exact hb)))
          clear hg hh hAA hMM hn
          exact Zbgp
        have hbd : decide (24 < A + nn) = false := decide_eq_false hb
        by_cases hf : fr < M
        · have hv := hid (beg_full (h := 1) (free := fr) hg (by decide) (by simp [getH]) hn (.inr (by rw [hAA, hMM]; exact hf)))
          clear hg hh hAA hMM hn
          exact Zbgp
        · have hv := hid (beg_ok (h := 1) (free := fr) hg (by decide) (by simp [getH]) hn (by rw [hAA, hMM]; omega))
          clear hg hh hAA hMM hn
          exact Zbgp
    · cases o2 with
      | true =>
        have hv := hid (beg_on (h := 2) (n := nn) (free := fr) hg (by decide) (by simp [getH]))
        clear hg hh hAA hMM hA0 hA1
        exact Zbgp
      | false =>
        by_cases hn : nn < 0 ∨ 12 < nn
        · have hv := hid (beg_far (h := 2) (n := nn) (free := fr) hg (by decide) (by simp [getH]) hn)
          clear hg hh hAA hMM hA0 hA1
          by_cases hneg : nn < 0
          · clear hn
            exact Zbgp
          · have hgt : 12 < nn := by omega
            clear hn
            exact Zbgp
        have hn0 : 0 ≤ nn := by omega
        have hn1 : nn ≤ 12 := by omega
        have hw : IntKind.i64.wrap (A + nn) = A + nn := IntWalk.i64_in _ (by omega)
        have hw' : RowKit.wrap64 (A + nn) = A + nn := by rw [w64]; exact hw
        by_cases hb : 24 < A + nn
        · have hv := hid (beg_full (h := 2) (free := fr) hg (by decide) (by simp [getH]) hn (.inl (by rw [hAA]; exact hb)))
          clear hg hh hAA hMM hn
          exact Zbgp
        have hbd : decide (24 < A + nn) = false := decide_eq_false hb
        by_cases hf : fr < M
        · have hv := hid (beg_full (h := 2) (free := fr) hg (by decide) (by simp [getH]) hn (.inr (by rw [hAA, hMM]; exact hf)))
          clear hg hh hAA hMM hn
          exact Zbgp
        · have hv := hid (beg_ok (h := 2) (free := fr) hg (by decide) (by simp [getH]) hn (by rw [hAA, hMM]; omega))
          clear hg hh hAA hMM hn
          exact Zbgp
end Go.Proofs.YtjhmfljlclajnacGreatDoor
