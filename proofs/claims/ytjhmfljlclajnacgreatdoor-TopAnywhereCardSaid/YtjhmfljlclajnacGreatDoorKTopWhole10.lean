/- Parts of the proof. -/
import Derived.Test.YtjhmfljlclajnacGreatDoorKTopWhole9
import Derived.Test.YtjhmfljlclajnacGreatDoorUFit2
import Derived.Test.YtjhmfljlclajnacGreatDoorURing
set_option linter.unusedVariables false
set_option linter.unusedSimpArgs false
set_option maxRecDepth 100000
set_option maxHeartbeats 40000000
namespace Go.Proofs.YtjhmfljlclajnacGreatDoor
open Go.RowKit Wb
theorem disk_FlushN (d : Dsk) (v : Value) (w : World) (hd : RDisk w v d) :
    Calls Tryz.prog 63 #[v] w fun e w' => ∃ v', e = .returned (.tuple #[v', .int .i64 (flushE d)]) /\ RDisk w' v' (flushD d) /\ NewD w.heap.size w' v v' d (flushD d) /\ Below w.heap.size w w' := by
 have hG := fun w (hh : RDisk w v d) => disk_Good d v w hh
 have hd2 := hd
 obtain ⟨vs, vw, rfl, hs, hw, n1, n2⟩ := hd
 obtain ⟨a, cap, rfl, ca1, ca2⟩ := hs.form
 obtain ⟨b, bcap, rfl, cb1, cb2⟩ := hw.form
 replace hd2 := hid hd2
 by_cases hg : goodD d = true
 ·have he : flushE d = 0 := by unfold flushE; rw [if_pos hg]
  have hv : flushD d = ⟨flushL d.safe d.writes, []⟩ := by unfold flushD; rw [if_pos hg]
  rw [hv, he]
  rw [hg] at hG
  obtain ⟨g1, g2, _, g3⟩ := (goodD_iff d).1 hg
  clear he hv hg
  obtain ⟨safe, writes⟩ := d
  dsimp only at *
  have hC := fun v w (hh : RL strC w v safe) => clone_Strings safe v w hh n1
  have hstep := fun (k : Nat) (hk : k < writes.length) => flushL_step safe writes hk
  have hlen := fun k => flushL_len safe (writes.take k)
  have hwr := fun (k : Nat) (hk : k < writes.length) => List.all_eq_true.1 g3 writes[k] (List.getElem_mem hk)
  replace hG := hid hG
  replace hC := hid hC
  replace hs := hid hs
  replace hw := hid hw
  replace hstep := hid hstep
  replace hlen := hid hlen
  replace hwr := hid hwr
  replace g1 := hid g1
  clear g3
  go_enter Tryz.func63, Tryz.ntmps63
  go_wp2_with (first
   | (go_at_call 110; refine (hG.out _ (hd2.out.below (by exact Zlo))).mono ?_; rintro e w1 ⟨rfl, hb1⟩; obtain ⟨hbc, hbf⟩ := bcell hb1; have hbz := hb1.size; try simp only [World.size_alloc, World.size_setCell, World.size_drew] at hbz; have hz0 := Nat.lt_of_lt_of_le (n := w.heap.size) (by omega) hbz; have hz1 := Nat.lt_of_lt_of_le (n := w.heap.size + 1) (by omega) hbz)
   | (go_at_call 45; (refine (hC.out _ _ (hs.out.below (by exact Zlo))).mono ?_; rintro e w3 ⟨v3, rfl, hown3, hb3⟩; obtain ⟨a3, cap3, rfl⟩ := hown3.form; have k0 : Blk w3 w.heap.size #[.slice a safe.length cap, .slice b writes.length bcap] 46 := (((Blk.new w _ _).alloc _).step hb1).step hb3; have k1 : Blk w3 (w.heap.size + 1) #[.slice none 0 0, .slice none 0 0] 46 := ((Blk.newAt (w := w.alloc _) (by simp)).step hb1).step hb3; have hnx3 : Below w.heap.size w w3 := (by exact Zlo); have lt1 := k1.lt; have lt0 := k0.lt; have c0 := k0.cell 0; have c1 := k0.cell 1; simp only [Zga, Zgb, Zgc] at c0 c1; have og := fun g (hg : (Value.slice a3 safe.length cap3).ownBlock = some g) => World.ownsRow.lt hown3 g hg; replace og := hid og; have lz := hb1.size; clear hb1 hb3 hbc hbf)))
  have hz1w : w.heap.size + 1 < w1.heap.size := by (try simp at lz); omega
  have o0 := hown3
  go_loopw [6, 18] (fun _ i wr => ∃ k : Nat, k <= writes.length /\ i = .int .i64 k /\ Wb.Own strC w1.heap.size 9 1 wr (.slice a3 safe.length cap3) (flushL safe (writes.take k)) /\ Blk wr w.heap.size #[.slice a safe.length cap, .slice b writes.length bcap] 46 /\ Blk wr (w.heap.size + 1) #[.slice none 0 0, .slice none 0 0] 46 /\ Blk wr w3.heap.size #[.slice a3 safe.length cap3, .slice none 0 0] 46 /\ Below w.heap.size w wr) (fun _ i _ => writes.length - (intOf i).toNat)
  case atStart => exact ⟨0, Nat.zero_le _, rfl, o0.alloc _, k0.alloc _, k1.alloc _, Blk.new _ _ _, allocB hnx3 (by omega) _⟩
  case round =>
   obtain ⟨k, hk, rfl, hown, k0, k1, k2, hnx⟩ := hrel
   have lt0 := k0.lt
   have lt1 := k1.lt
   have lt2 := k2.lt
   have c0 := k0.cell 0
   have c1 := k0.cell 1
   have c2 := k1.cell 0
   have c3 := k1.cell 1
   have c4 := k2.cell 0
   have c5 := k2.cell 1
   simp only [Zga, Zgb, Zgc] at c0 c1 c2 c3 c4 c5
   by_cases hlt : k < writes.length
   ·obtain ⟨b2, off, rfl, d0, d1⟩ := RL.at2 (fun x => .int .i64 x.at_) (fun x => .string x.text) (fun _ => rfl) (hw.out.below hnx) hlt
    have lt3 := World.block_lt_of_cell? _ _ d0
    dsimp only at lt3
    have hst := hstep.out k hlt
    have hwk := hwr.out k hlt
    have hl := hlen.out k
    obtain ⟨⟨p, t⟩, hx⟩ : ∃ x, writes[k] = x := ⟨_, rfl⟩
    rw [hx] at d0 d1 hst hwk
    obtain ⟨m, rfl⟩ : ∃ m : Nat, p = m := ⟨p.toNat, by simp only [wrOk, Bool.and_eq_true, isAt, decide_eq_true_eq] at hwk; omega⟩
    have hm : m < safe.length := by simp only [wrOk, Bool.and_eq_true, isAt, decide_eq_true_eq] at hwk; have := g1.out; omega
    dsimp only at d0 d1
    simp only [Int.toNat_natCast] at hst
    generalize flushL safe (writes.take k) = fl at *
    obtain ⟨g, cap4, hv, hgb, hgl, hgc, hset⟩ := hown.poke strC_flat (k := m) (by omega)
    simp only [Value.slice.injEq] at hv
    obtain ⟨rfl, _, rfl⟩ := hv
    obtain ⟨z0, z1⟩ := hgc 0 (by decide)
    replace hset := hset 0 t (.string t) (by decide) rfl
    rw [<- hst, Nat.mul_one, Nat.add_zero] at hset
    simp only [Nat.mul_one, Nat.add_zero, strC, List.getElem?_cons_zero] at z0 z1
    replace hset := hid hset
    have hne := og.out g rfl
    have hm3 : m < fl.length := by omega
    obtain ⟨old, hold⟩ : ∃ y, fl[m] = y := ⟨_, rfl⟩
    rw [hold] at z1
    clear hold hwk hst hx hown hgc hl hm3
    have hm2 : (m : Int) < safe.length := by omega
    go_wp2
    go_roundw
    case rel => exact ⟨k + 1, by omega, by go_num, hset.out.alloc _, (k0.set_other _ _ (by simp; omega)).alloc _, (k1.set_other _ _ (by simp; omega)).alloc _, (k2.set_other _ _ (by simp; omega)).alloc _, allocB (hnx.setCell (by simp; omega) _) (by omega) _⟩
    case measure => simp [intOf]; omega
   ·rw [List.take_of_length_le (by omega)] at hown
    have f1 := k1.free 0
    have f2 := k1.free 1
    go_wp2
    have hF : Below w.heap.size w ((wr.setCell ⟨w.heap.size + 1, 0, none⟩ (.slice a3 safe.length cap3)).setCell ⟨w.heap.size + 1, 1, none⟩ (.slice none 0 0)) := (hnx.setCell (by simp) _).setCell (by simp) _
    have hfl := flushL_len safe writes
    obtain ⟨a9, cap9, hv9, _, _⟩ := hown.reads.form
    have ho := (hown.setCell (p := ⟨w.heap.size + 1, 0, none⟩) (by simp; omega) (.slice a3 safe.length cap3)).setCell (p := ⟨w.heap.size + 1, 1, none⟩) (by simp; omega) (.slice none 0 0)
    refine bodyPost_ret (v := .tuple #[.agg #[.slice a3 safe.length cap3, .slice none 0 0], .int .i64 0]) (by simp [results, Tryz.results63, go_sem, c2, c3]) rfl ⟨_, rfl, ⟨_, _, rfl, ho.reads, RL.nil _ _, by rw [hfl]; exact n1, by simp⟩, ⟨_, _, _, _, rfl, rfl, ho.slot (by omega), .nil⟩, hF⟩
 ·have he : flushE d = 2 := by unfold flushE; rw [if_neg hg]
  have hv : flushD d = d := by unfold flushD; rw [if_neg hg]
  rw [hv, he]
  rw [Bool.not_eq_true _ |>.mp hg] at hG
  clear hg hv he hs hw
  replace hG := hid hG
  go_enter Tryz.func63, Tryz.ntmps63
  go_wp2_with (go_at_call 110; refine (hG.out _ (hd2.out.below (by exact Zlo))).mono ?_; rintro e w1 ⟨rfl, hb1⟩; obtain ⟨hbc, hbf⟩ := bcell hb1; have hbz := hb1.size; try simp only [World.size_alloc, World.size_setCell, World.size_drew] at hbz; have hz0 := Nat.lt_of_lt_of_le (n := w.heap.size) (by omega) hbz; have hz1 := Nat.lt_of_lt_of_le (n := w.heap.size + 1) (by omega) hbz)
  exact bodyPost_ret (v := .tuple #[.agg #[.slice a d.safe.length cap, .slice b d.writes.length bcap], .int .i64 2]) (by simp [results, Tryz.results63, go_sem, hbc]) rfl ⟨_, rfl, hd2.out.below (by exact Zlo), hd2.out.same _, by exact Zlo⟩
theorem disk_New (w : World) :
    Calls Tryz.prog 60 #[] w fun e w' => ∃ vs, e = .returned (.agg #[vs, .slice none 0 0]) /\ Wb.Own strC (w.heap.size + 2) 9 1 w' vs (List.replicate 37 (fit ⟨#[]⟩)) /\ Below w.heap.size w w' := by
 have hFit := fun w => disk_Fit ⟨#[]⟩ w (by decide)
 have hrep := fun k => (List.replicate_succ' (n := k) (a := fit ⟨#[]⟩))
 generalize fit ⟨#[]⟩ = z at *
 replace hFit := hid hFit
 replace hrep := hid hrep
 go_enter Tryz.func60, Tryz.ntmps60
 go_wp2
 go_loopw [2] (fun i wr => ∃ k : Nat, k <= 37 /\ i = .int .i64 k /\ ∃ vo, Wb.Own strC (w.heap.size + 2) 9 1 wr vo (List.replicate k z) /\ Blk wr w.heap.size #[.slice none 0 0, .slice none 0 0] 46 /\ Blk wr (w.heap.size + 1) #[vo, .slice none 0 0] 46 /\ Below w.heap.size w wr) (fun i _ => 37 - (intOf i).toNat)
 case atStart => exact ⟨0, by decide, rfl, _, Own.nil _ _ _ _ _, (Blk.new w _ _).alloc _, Blk.newAt (by simp), by exact Zlo⟩
 case round =>
  obtain ⟨k, hk, rfl, vo, hown, k0, k1, hnx⟩ := hrel
  obtain ⟨ao, capo, rfl⟩ := hown.form
  have lt0 := k0.lt
  have lt1 := k1.lt
  have c0 := k0.cell 0
  have c1 := k0.cell 1
  have c2 := k1.cell 0
  have c3 := k1.cell 1
  simp only [Zga, Zgb, Zgc] at c0 c1 c2 c3
  have hkl : (List.replicate k z).length = k := List.length_replicate
  rw [hkl] at hown k1 c2
  clear hkl
  by_cases hlt : k < 37
  ·have hr := hid (hrep.out k)
   have hlen : (List.replicate k z).length = k := List.length_replicate
   generalize List.replicate k z = Mk at *
   go_wp2
   go_region_law (first
    | (refine step_call 65 _ _ (by rfl) (by rfl) #[.string ⟨#[]⟩] (by rfl) ⟨_, _, Tryz.func65, by kernel_rfl, rfl⟩ (hFit.out _) ?_; rintro e w3 ⟨rfl, hb3⟩; refine ⟨_, rfl, ?_⟩; have k0' := k0.drew.step hb3; have k1' := k1.drew.step hb3; have c2' := k1'.cell 0; simp only [Zga, Zgb, Zgc] at c2'; have hown3 := hown.drew.below hb3; have hnx3 := hnx.drew.trans (hb3.mono (by simp; omega)); have lt1' := k1'.lt)
    | (refine step_push (by rfl) _ _ 43 (by rfl) (w.heap.size + 2) _ 1 16 strC_flat elemStr (hown3.alloc _) (by rfl) z w3.heap.size (Blk.newAt (w := w3) rfl) (by rfl) (by rfl) k hlen (by omega) (by omega) (by (try simp); omega) ?_; intro a4 cap4 w4 hown4 hb4 _; have k4 := (k1'.alloc _).below hb4 (by omega); have f5 := k4.cell 0; simp only [Zga, Zgb, Zgc] at f5; have f6 := k4.free 0))
   all_goals
    go_wp2
    go_roundw
    case rel => exact ⟨k + 1, by omega, by go_num, _, by rw [hr.out]; exact hown4.setCell (p := ⟨w.heap.size + 1, 0, none⟩) (by simp) _, ((k0'.alloc _).below hb4 (by omega)).set_other _ _ (by simp), k4.set 0 _, ((allocB hnx3 (by omega) _).trans (hb4.mono (by omega))).setCell (by simp) _⟩
    case measure => simp [intOf]; omega
  ·obtain rfl : k = 37 := by omega
   have f1 := k0.free 0
   have f2 := k0.free 1
   go_wp2
   have hF : Below w.heap.size w ((wr.setCell ⟨w.heap.size, 0, none⟩ (.slice ao 37 capo)).setCell ⟨w.heap.size, 1, none⟩ (.slice none 0 0)) := (hnx.setCell (by simp) _).setCell (by simp) _
   have ho := (hown.setCell (p := ⟨w.heap.size, 0, none⟩) (by simp) (.slice ao 37 capo)).setCell (p := ⟨w.heap.size, 1, none⟩) (by simp) (.slice none 0 0)
   exact bodyPost_ret (v := .agg #[.slice ao 37 capo, .slice none 0 0]) (by simp [results, Tryz.results60, go_sem, c0, c1]) rfl ⟨_, rfl, ho, hF⟩
theorem disk_Crash_bad (d : Dsk) (draw : Int) (v : Value) (w : World) (hd : RDisk w v d) (h : ¬ (goodD d = true /\ 0 <= draw)) :
    Calls Tryz.prog 74 #[v, .int .i64 draw] w fun e w' => ∃ v', e = .returned (.tuple #[v', .int .i64 (crashE d draw)]) /\ RDisk w' v' (crashD d draw) /\ NewD w.heap.size w' v v' d (crashD d draw) /\ Below w.heap.size w w' := by
 have hG := fun w (hh : RDisk w v d) => disk_Good d v w hh
 have hd2 := hd
 obtain ⟨vs, vw, rfl, hs, hw, n1, n2⟩ := hd
 obtain ⟨a, cap, rfl, ca1, ca2⟩ := hs.form
 obtain ⟨b, bcap, rfl, cb1, cb2⟩ := hw.form
 have he : crashE d draw = 2 := by unfold crashE; rw [if_neg h]
 have hv : crashD d draw = d := by unfold crashD; rw [if_neg h]
 rw [hv, he]
 clear he hv hs hw
 replace hd2 := hid hd2
 by_cases hg : goodD d = true
 ·have hneg : draw < 0 := Int.not_le.1 (fun hh => h ⟨hg, hh⟩)
  rw [hg] at hG
  clear hg h
  replace hG := hid hG
  go_enter Tryz.func74, Tryz.ntmps74
  go_wp2_with (go_at_call 110; refine (hG.out _ (hd2.out.below (by exact Zlo))).mono ?_; rintro e w1 ⟨rfl, hb1⟩; obtain ⟨hbc, hbf⟩ := bcell hb1; have hbz := hb1.size; try simp only [World.size_alloc, World.size_setCell, World.size_drew] at hbz; have hz0 := Nat.lt_of_lt_of_le (n := w.heap.size) (by omega) hbz; have hz1 := Nat.lt_of_lt_of_le (n := w.heap.size + 1) (by omega) hbz)
  exact bodyPost_ret (v := .tuple #[.agg #[.slice a d.safe.length cap, .slice b d.writes.length bcap], .int .i64 2]) (by simp [results, Tryz.results74, go_sem, hbc]) rfl ⟨_, rfl, hd2.out.below (by exact Zlo), hd2.out.same _, by exact Zlo⟩
 ·rw [Bool.not_eq_true _ |>.mp hg] at hG
  clear hg h
  replace hG := hid hG
  go_enter Tryz.func74, Tryz.ntmps74
  go_wp2_with (go_at_call 110; refine (hG.out _ (hd2.out.below (by exact Zlo))).mono ?_; rintro e w1 ⟨rfl, hb1⟩; obtain ⟨hbc, hbf⟩ := bcell hb1; have hbz := hb1.size; try simp only [World.size_alloc, World.size_setCell, World.size_drew] at hbz; have hz0 := Nat.lt_of_lt_of_le (n := w.heap.size) (by omega) hbz; have hz1 := Nat.lt_of_lt_of_le (n := w.heap.size + 1) (by omega) hbz)
  exact bodyPost_ret (v := .tuple #[.agg #[.slice a d.safe.length cap, .slice b d.writes.length bcap], .int .i64 2]) (by simp [results, Tryz.results74, go_sem, hbc]) rfl ⟨_, rfl, hd2.out.below (by exact Zlo), hd2.out.same _, by exact Zlo⟩
theorem disk_Crash_good (d : Dsk) (x : Nat) (v : Value) (w : World) (hd : RDisk w v d) (hg : goodD d = true) (hx : x <= 9223372036854775807) :
    Calls Tryz.prog 74 #[v, .int .i64 (x : Int)] w fun e w' => ∃ v', e = .returned (.tuple #[v', .int .i64 0]) /\ RDisk w' v' ⟨crashL d x d.safe.length, []⟩ /\ NewD w.heap.size w' v v' d ⟨crashL d x d.safe.length, []⟩ /\ Below w.heap.size w w' := by
 have hG := fun w (hh : RDisk w v d) => disk_Good d v w hh
 have hd2 := hd
 obtain ⟨vs, vw, rfl, hs, hw, n1, n2⟩ := hd
 obtain ⟨a, cap, rfl, ca1, ca2⟩ := hs.form
 obtain ⟨b, bcap, rfl, cb1, cb2⟩ := hw.form
 rw [hg] at hG
 obtain ⟨g1, g2, _, _⟩ := (goodD_iff d).1 hg
 clear hg
 have hC := fun v w (hh : RL strC w v d.safe) => clone_Strings d.safe v w hh n1
 have hset := fun (k : Nat) (hk : k < d.safe.length) => mixL_set d x hk
 have hlen := fun (k : Nat) (hk : k <= d.safe.length) => mixL_len d x hk
 have hget := fun (k : Nat) => crashAt_get d x k (Nat.mod_lt _ (textsAt_pos d k))
 have hpos := fun (k : Nat) => textsAt_pos d k
 have hle := fun (k : Nat) => textsAt_le d k
 have hdr := fun (k : Nat) => drawAt_le d x k
 have hds := fun (k : Nat) => drawAt_succ d x k
 have htx := fun (k : Nat) (hk : k < d.safe.length) => textsAt_eq d hk
 have hhit := fun (n k : Nat) (hn : n < d.safe.length) (hk : k < d.writes.length) => afterL_hit d.safe[n] n hk
 have hmiss := fun (n k : Nat) (hn : n < d.safe.length) (hk : k < d.writes.length) => afterL_miss d.safe[n] n hk
 have hal := fun (n k : Nat) (hn : n < d.safe.length) => afterL_len d.safe[n] n (d.writes.take k)
 have hm0 := mixL_zero d x
 have hmf := mixL_full d x
 have hcl := crashL_len d x d.safe.length
 replace hd2 := hid hd2; replace hG := hid hG; replace hC := hid hC; replace hs := hid hs; replace hw := hid hw; replace hset := hid hset; replace hlen := hid hlen
 replace hget := hid hget; replace hpos := hid hpos; replace hle := hid hle; replace hdr := hid hdr; replace hds := hid hds; replace htx := hid htx; replace hhit := hid hhit; replace hmiss := hid hmiss; replace hal := hid hal
 replace hm0 := hid hm0; replace hmf := hid hmf; replace hcl := hid hcl; replace g1 := hid g1
 go_enter Tryz.func74, Tryz.ntmps74
 go_wp2_with (first
  | (go_at_call 110; refine (hG.out _ (hd2.out.below (by exact Zlo))).mono ?_; rintro e w1 ⟨rfl, hb1⟩; obtain ⟨hbc, hbf⟩ := bcell hb1; have hbz := hb1.size; try simp only [World.size_alloc, World.size_setCell, World.size_drew] at hbz; have hz0 := Nat.lt_of_lt_of_le (n := w.heap.size) (by omega) hbz; have hz1 := Nat.lt_of_lt_of_le (n := w.heap.size + 1) (by omega) hbz)
  | (go_at_call 45; (refine (hC.out _ _ (hs.out.below (by exact Zlo))).mono ?_; rintro e w3 ⟨v3, rfl, hown3, hb3⟩; obtain ⟨a3, cap3, rfl⟩ := hown3.form; have k0 : Blk w3 w.heap.size #[.slice a d.safe.length cap, .slice b d.writes.length bcap] 46 := (((Blk.new w _ _).alloc _).step hb1).step hb3; have k1 : Blk w3 (w.heap.size + 1) #[.slice none 0 0, .slice none 0 0] 46 := ((Blk.newAt (w := w.alloc _) (by simp)).step hb1).step hb3; have hnx3 : Below w.heap.size w w3 := (by exact Zlo); have lt1 := k1.lt; have lt0 := k0.lt; have c0 := k0.cell 0; have c1 := k0.cell 1; simp only [Zga, Zgb, Zgc] at c0 c1; have og := fun g (hh : Value.ownBlock (.slice a3 d.safe.length cap3) = some g) => World.ownsRow.lt hown3 g hh; replace og := hid og; have lz := hb1.size; clear hbc hbf hbz hb1 hb3)))
 have hz1w : w.heap.size + 1 < w1.heap.size := by (try simp at lz); omega
 have o0 := hown3
 rw [<- hm0.out] at o0
 go_loopw [1, 26] (fun s1 i wr => ∃ k : Nat, k <= d.safe.length /\ i = .int .i64 k /\ s1 = .int .i64 (drawAt d x k : Nat) /\ Wb.Own strC w1.heap.size 9 1 wr (.slice a3 d.safe.length cap3) (mixL d x k) /\ Blk wr w.heap.size #[.slice a d.safe.length cap, .slice b d.writes.length bcap] 46 /\ Blk wr (w.heap.size + 1) #[.slice none 0 0, .slice none 0 0] 46 /\ Blk wr w3.heap.size #[.slice a3 d.safe.length cap3, .slice none 0 0] 46 /\ Below w.heap.size w wr) (fun _ i _ => d.safe.length - (intOf i).toNat)
 case atStart => exact ⟨0, Nat.zero_le _, rfl, rfl, o0.alloc _, k0.alloc _, k1.alloc _, Blk.new _ _ _, allocB hnx3 (by omega) _⟩
 case round =>
  clear k0 k1 hnx3 lt0 lt1 c0 c1 o0 hown3
  obtain ⟨wo, rfl⟩ : ∃ wo : World, wo = wr := ⟨_, rfl⟩
  obtain ⟨k, hk, rfl, rfl, hown, k0, k1, k2, hnx⟩ := hrel
  have lt0 := k0.lt
  have lt1 := k1.lt
  have lt2 := k2.lt
  have c0 := k0.cell 0
  have c1 := k0.cell 1
  have c2 := k1.cell 0
  have c3 := k1.cell 1
  have c4 := k2.cell 0
  have c5 := k2.cell 1
  simp only [Zga, Zgb, Zgc] at c0 c1 c2 c3 c4 c5
  by_cases hlt : k < d.safe.length
  ·obtain ⟨b2, off, rfl, d0⟩ := RL.at1 (fun x => .string x) (fun _ => rfl) (hs.out.below hnx) hlt
   have ld := World.block_lt_of_cell? _ _ d0
   dsimp only at ld
   have hset := hset.out k hlt
   have hget := hget.out k
   have hpos := hpos.out k
   have hle := hle.out k
   have hdr := hdr.out k
   have hds := hds.out k
   have htx := htx.out k hlt
   have hhit := fun j hj => hhit.out k j hlt hj
   have hmiss := fun j hj => hmiss.out k j hlt hj
   have hal := fun j => hal.out k j hlt
   have hml := hlen.out k (by omega)
   generalize mixL d x k = M at *
   replace hset := hid hset; replace hget := hid hget; replace hds := hid hds; replace htx := hid htx; replace hhit := hid hhit; replace hmiss := hid hmiss; replace hal := hid hal; replace hml := hid hml; replace hpos := hid hpos; replace hle := hid hle
   obtain ⟨sk, hsk⟩ : ∃ sk, sk = d.safe[k] := ⟨_, rfl⟩
   rw [<- hsk] at d0 htx hhit hmiss hal
   clear hsk
   generalize drawAt d x k = y at *
   go_wp2
   have kl : Blk (wo.alloc (.cells #[.string sk] 9)) wo.heap.size #[.string sk] 9 := Blk.new wo _ _
   go_loopw [8, 10, 38] (fun l _ i wi => ∃ j : Nat, j <= d.writes.length /\ i = .int .i64 j /\ Wb.Own strC wo.heap.size 9 1 wi l (afterL sk k (d.writes.take j)) /\ Below wo.heap.size wo wi /\ wo.heap.size < wi.heap.size) (fun _ _ i _ => d.writes.length - (intOf i).toNat)
   case atStart =>
    refine ⟨0, Nat.zero_le _, rfl, ?_, bal (b0 wo) _, by simp⟩
    rw [List.take_zero, afterL_nil]
    exact Own.lit (f := strC) strC_flat wo.heap.size 9 wo [sk] (by simp) (by show 1 <= maxLen; decide) rfl (by simp) rfl
   case round =>
    obtain ⟨j, hj, rfl, hl, hbi, hzi⟩ := hrel
    by_cases hlt2 : j < d.writes.length
    ·obtain ⟨b3, off3, rfl, d1, d2⟩ := RL.at2 (fun x => .int .i64 x.at_) (fun x => .string x.text) (fun _ => rfl) ((hw.out.below hnx).below hbi) hlt2
     have ld3 := World.block_lt_of_cell? _ _ d1
     dsimp only at ld3
     by_cases heq : d.writes[j].at_ = k
     ·have hh := hhit.out j hlt2 heq
      have hq := hal.out j
      rw [List.length_take] at hq
      have e1 : (d.writes[j].at_ == (k : Int)) = true := beq_iff_eq.2 heq
      replace hh := hid hh
      clear heq
      generalize d.writes[j] = xw at *
      generalize afterL sk k (d.writes.take j) = ls at *
      have hqq : ls.length <= 201 := by omega
      clear hq
      go_wp2_with (at_builtin; (refine wpList_push rfl _ _ _ rfl wo.heap.size _ 1 16 strC_flat elemStr (hl.alloc _) rfl xw.text rfl rfl ?c1 ?c2 ?c3 ?c4))
      all_goals try (case c1 => omega)
      all_goals try (case c2 => unfold maxLen; omega)
      all_goals try (case c3 => simp; omega)
      case c4 =>
       intro v7 w7 hown7 hbel7 _
       rw [<- hh.out] at hown7
       have hz7 := hbel7.size
       go_wp2
       go_roundw
       case rel => exact ⟨j + 1, by omega, by go_num, hown7, (allocB hbi (by omega) _).trans (hbel7.mono (by omega)), by simp at hz7; omega⟩
       case measure => simp [intOf]; omega
     ·have hh := hmiss.out j hlt2 heq
      have e1 : (d.writes[j].at_ == (k : Int)) = false := beq_eq_false_iff_ne.2 heq
      replace hh := hid hh
      clear heq
      generalize d.writes[j] = xw at *
      go_wp2
      go_roundw
      case rel => exact ⟨j + 1, by omega, by go_num, by rw [hh.out]; exact hl.alloc _, allocB hbi (by omega) _, by simp; omega⟩
      case measure => simp [intOf]; omega
    ·rw [List.take_of_length_le (by omega), <- htx.out] at hl
     obtain ⟨al, capl, rfl⟩ := hl.form
     have k0 := k0.step hbi
     have k1 := k1.step hbi
     have k2 := k2.step hbi
     have hown := hown.below hbi
     have hnx := hnx.trans (hbi.mono (by omega))
     clear c0 c1 c2 c3 c4 c5 lt0 lt1 lt2 d0 ld kl
     have lt2 := k2.lt
     have c4 := k2.cell 0
     simp only [Zga, Zgb, Zgc] at c4
     replace hpos := hpos.out
     replace hle := hle.out
     replace hget := hget.out
     replace hds := hds.out
     have hmx := Nat.mod_lt y hpos
     have hmi : ((y : Int) % ((textsAt d k).length : Int)) = ((y % (textsAt d k).length : Nat) : Int) := rfl
     have hmt : ((y : Int).tmod ((textsAt d k).length : Int)) = ((y % (textsAt d k).length : Nat) : Int) := rfl
     have hdi : ((y : Int) / ((textsAt d k).length : Int)) = ((y / (textsAt d k).length : Nat) : Int) := rfl
     have hdt : ((y : Int).tdiv ((textsAt d k).length : Int)) = ((y / (textsAt d k).length : Nat) : Int) := rfl
     rw [<- hds] at hdi hdt
     generalize hye : drawAt d x (k + 1) = y2 at *
     replace hye := hid hye
     obtain ⟨bl, offl, rfl, z0⟩ := RL.at1 (fun x => .string x) (fun _ => rfl) hl.reads hmx
     rw [hget] at z0
     clear hget
     replace hds := hid hds
     generalize y % (textsAt d k).length = q at *
     generalize crashAt d x k = t at *
     generalize textsAt d k = ls at *
     have hne0 : ((ls.length : Int) == 0) = false := beq_eq_false_iff_ne.2 (by omega)
     have hm := hml.out
     obtain ⟨g, cap4, hv, hgb, hgl, hgc, hpk⟩ := hown.poke strC_flat (k := k) (by omega)
     simp only [Value.slice.injEq] at hv
     obtain ⟨rfl, _, rfl⟩ := hv
     obtain ⟨z2, z3⟩ := hgc 0 (by decide)
     replace hpk := hpk 0 t (.string t) (by decide) rfl
     rw [hset.out, Nat.mul_one, Nat.add_zero] at hpk
     simp only [Nat.mul_one, Nat.add_zero, strC, List.getElem?_cons_zero] at z2 z3
     replace hpk := hid hpk
     have hne := og.out g rfl
     have hm3 : k < M.length := by omega
     obtain ⟨old, hold⟩ : ∃ o, M[k] = o := ⟨_, rfl⟩
     rw [hold] at z3
     clear hold hm hown hgc hm3
     have hq2 : (q : Int) < (ls.length : Int) := by omega
     have hk2 : (k : Int) < (d.safe.length : Int) := by omega
     have lz0 := World.block_lt_of_cell? _ _ z0
     dsimp only at lz0
     have hy0 : (y : Int) <= 9223372036854775807 := by omega
     have hys : y2 <= y := by rw [hds.out]; exact Nat.div_le_self _ _
     have hy2 : IntKind.i64.wrap (y2 : Int) = y2 := IntWalk.i64_in _ (by omega)
     go_wp2
     go_region
     all_goals
      go_wp2
      go_roundw
      case rel => exact ⟨k + 1, by omega, by go_num, by rw [hye.out], hpk.out, k0.drew.set_other _ _ (by simp; omega), k1.drew.set_other _ _ (by simp; omega), k2.drew.set_other _ _ (by simp; omega), hnx.drew.setCell (by simp; omega) _⟩
      case measure => simp [intOf]; omega
  ·obtain rfl : k = d.safe.length := by omega
   rw [hmf.out] at hown
   have f1 := k1.free 0
   have f2 := k1.free 1
   have hcl2 := hcl.out
   go_wp2
   have hF : Below w.heap.size w ((wo.setCell ⟨w.heap.size + 1, 0, none⟩ (.slice a3 d.safe.length cap3)).setCell ⟨w.heap.size + 1, 1, none⟩ (.slice none 0 0)) := (hnx.setCell (by simp) _).setCell (by simp) _
   have ho := (hown.setCell (p := ⟨w.heap.size + 1, 0, none⟩) (by simp; omega) (.slice a3 d.safe.length cap3)).setCell (p := ⟨w.heap.size + 1, 1, none⟩) (by simp; omega) (.slice none 0 0)
   refine bodyPost_ret (v := .tuple #[.agg #[.slice a3 d.safe.length cap3, .slice none 0 0], .int .i64 0]) (by simp [results, Tryz.results74, go_sem, c2, c3]) rfl ⟨_, rfl, ⟨_, _, rfl, ho.reads, RL.nil _ _, by rw [hcl.out]; exact n1, by simp⟩, ⟨_, _, _, _, rfl, rfl, ho.slot (by omega), .nil⟩, hF⟩
theorem disk_CrashN (d : Dsk) (draw : Int) (v : Value) (w : World) (hd : RDisk w v d) (hx : draw <= 9223372036854775807) :
    Calls Tryz.prog 74 #[v, .int .i64 draw] w fun e w' => ∃ v', e = .returned (.tuple #[v', .int .i64 (crashE d draw)]) /\ RDisk w' v' (crashD d draw) /\ NewD w.heap.size w' v v' d (crashD d draw) /\ Below w.heap.size w w' := by
 by_cases h : goodD d = true /\ 0 <= draw
 ·obtain ⟨hg, h0⟩ := h
  have he : crashE d draw = 0 := by unfold crashE; rw [if_pos ⟨hg, h0⟩]
  have hv : crashD d draw = ⟨crashL d draw.toNat d.safe.length, []⟩ := by unfold crashD; rw [if_pos ⟨hg, h0⟩]
  rw [he, hv]
  have := disk_Crash_good d draw.toNat v w hd hg (by omega)
  rwa [Int.toNat_of_nonneg h0] at this
 ·exact disk_Crash_bad d draw v w hd h
theorem disk_Read (d : Dsk) (n : Int) (v : Value) (w : World) (hd : RDisk w v d) :
    Calls Tryz.prog 67 #[v, .int .i64 n] w fun e w' => e = .returned (.tuple #[.string (readD d n), .int .i64 (readE d n)]) /\ Below w.heap.size w w' := by
 have hG := fun w (hh : RDisk w v d) => disk_Good d v w hh
 have hA := fun w => disk_at n w
 have hd2 := hd
 obtain ⟨vs, vw, rfl, hs, hw, n1, n2⟩ := hd
 obtain ⟨a, cap, rfl, _⟩ := hs.form
 obtain ⟨b, bcap, rfl, _⟩ := hw.form
 replace hd2 := hid hd2
 by_cases hg : goodD d = true
 ·rw [hg] at hG
  by_cases ha : isAt n = true
  ·rw [ha] at hA
   have hr : readD d n = lastT (safeAt d n) n (d.writes.take d.writes.length) := by unfold readD; rw [if_pos ⟨hg, ha⟩, List.take_length]
   have he : readE d n = 0 := by unfold readE; rw [if_pos ⟨hg, ha⟩]
   rw [he]
   obtain ⟨g1, g2, _, _⟩ := (goodD_iff d).1 hg
   obtain ⟨h0, h1⟩ : 0 <= n /\ n < 37 := of_decide_eq_true ha
   obtain ⟨m, rfl⟩ : ∃ m : Nat, n = m := ⟨n.toNat, by omega⟩
   have hm : m < d.safe.length := by omega
   have hsf : safeAt d m = d.safe[m] := by simp [safeAt, hm]
   rw [hsf] at hr
   clear hg ha he hsf
   generalize readD d m = r at *
   obtain ⟨safe, writes⟩ := d
   dsimp only at *
   have hlast := fun (k : Nat) (hk : k < writes.length) => lastT_hit safe[m] m hk
   have hmiss := fun (k : Nat) (hk : k < writes.length) => lastT_miss safe[m] m hk
   have hl0 := lastT_nil safe[m] m
   have hm3 : m < safe.length := hm
   replace hs := hid hs
   replace hw := hid hw
   replace hG := hid hG
   replace hA := hid hA
   replace hr := hid hr
   replace g1 := hid g1
   replace hlast := hid hlast
   replace hmiss := hid hmiss
   replace hl0 := hid hl0
   replace hm3 := hid hm3
   go_enter Tryz.func67, Tryz.ntmps67
   go_wp2_with (first
    | (go_at_call 110; refine (hG.out _ (hd2.out.below (by exact Zlo))).mono ?_; rintro e w1 ⟨rfl, hb1⟩; obtain ⟨hbc, hbf⟩ := bcell hb1; have hbz := hb1.size; try simp only [World.size_alloc, World.size_setCell, World.size_drew] at hbz; have hz0 := Nat.lt_of_lt_of_le (n := w.heap.size) (by omega) hbz)
    | (go_at_call 111; refine (hA.out _).mono ?_; rintro e w2 ⟨rfl, rfl⟩))
   have kb : Blk w1 w.heap.size #[.slice a safe.length cap, .slice b writes.length bcap] 46 := (Blk.new w _ _).step hb1
   have hnx : Below w.heap.size w w1 := by exact Zlo
   clear hb1 hbc hbf
   have lt0 := kb.lt
   have c0 := kb.cell 0
   have c1 := kb.cell 1
   simp only [Zga, Zgb, Zgc] at c0 c1
   go_loop [6] (fun i => ∃ k : Nat, k <= writes.length /\ i = .int .i64 ((k : Int) - 1) /\ Hid (r = lastT safe[m] m (writes.take k))) (fun i => (intOf i + 1).toNat)
   case atStart => exact ⟨writes.length, Nat.le_refl _, rfl, hr.out⟩
   case round =>
    obtain ⟨k, hk, rfl, hrk⟩ := hrel
    rcases Nat.eq_zero_or_pos k with hk0 | hk0
    ·subst hk0
     obtain ⟨b2, off, rfl, d0⟩ := RL.at1 (fun x => .string x) (fun _ => rfl) (hs.out.below hnx) hm3.out
     have hrs : r = safe[m] := by rw [hrk.out, List.take_zero]; exact hl0.out
     replace hrs := hid hrs
     clear hrk
     generalize safe[m] = sm at *
     go_wp2
     go_ret2
     exact ⟨ret_st hrs.out.symm, hnx⟩
    ·obtain ⟨j, rfl⟩ : ∃ j, k = j + 1 := ⟨k - 1, by omega⟩
     have hj : j < writes.length := by omega
     obtain ⟨b2, off, rfl, d0, d1⟩ := RL.at2 (fun x => .int .i64 x.at_) (fun x => .string x.text) (fun _ => rfl) (hw.out.below hnx) hj
     by_cases heq : writes[j].at_ = m
     ·have hrs : r = writes[j].text := by rw [hrk.out]; exact hlast.out j hj heq
      replace hrs := hid hrs
      have e1 : (writes[j].at_ == (m : Int)) = true := beq_iff_eq.2 heq
      clear hrk heq
      generalize writes[j] = x at *
      go_wp2
      go_ret2
      exact ⟨ret_st hrs.out.symm, hnx⟩
     ·have hrs : r = lastT safe[m] m (writes.take j) := by rw [hrk.out]; exact hmiss.out j hj heq
      replace hrs := hid hrs
      have e1 : (writes[j].at_ == (m : Int)) = false := beq_eq_false_iff_ne.2 heq
      clear hrk heq
      generalize writes[j] = x at *
      go_wp2
      go_round
      case rel => exact ⟨j, by omega, by go_num, hrs⟩
      case measure => simp [intOf]
  ·have hr : readD d n = ⟨#[]⟩ := by unfold readD; rw [if_neg (fun hh => ha hh.2)]
   have he : readE d n = 2 := by unfold readE; rw [if_neg (fun hh => ha hh.2)]
   rw [hr, he]
   rw [Bool.not_eq_true _ |>.mp ha] at hA
   clear hs hw ha hg hr he
   replace hG := hid hG
   replace hA := hid hA
   go_enter Tryz.func67, Tryz.ntmps67
   go_wp2_with (first
    | (go_at_call 110; refine (hG.out _ (hd2.out.below (by exact Zlo))).mono ?_; rintro e w1 ⟨rfl, hb1⟩; obtain ⟨hbc, hbf⟩ := bcell hb1; have hbz := hb1.size; try simp only [World.size_alloc, World.size_setCell, World.size_drew] at hbz; have hz0 := Nat.lt_of_lt_of_le (n := w.heap.size) (by omega) hbz)
    | (go_at_call 111; refine (hA.out _).mono ?_; rintro e w2 ⟨rfl, rfl⟩))
   go_ret2
   exact ⟨rfl, by exact Zlo⟩
 ·have hr : readD d n = ⟨#[]⟩ := by unfold readD; rw [if_neg (fun hh => hg hh.1)]
  have he : readE d n = 2 := by unfold readE; rw [if_neg (fun hh => hg hh.1)]
  rw [hr, he]
  rw [Bool.not_eq_true _ |>.mp hg] at hG
  clear hs hw hg hr he
  replace hG := hid hG
  go_enter Tryz.func67, Tryz.ntmps67
  go_wp2_with (go_at_call 110; refine (hG.out _ (hd2.out.below (by exact Zlo))).mono ?_; rintro e w1 ⟨rfl, hb1⟩; obtain ⟨hbc, hbf⟩ := bcell hb1; have hbz := hb1.size; try simp only [World.size_alloc, World.size_setCell, World.size_drew] at hbz; have hz0 := Nat.lt_of_lt_of_le (n := w.heap.size) (by omega) hbz)
  go_ret2
  exact ⟨rfl, by exact Zlo⟩
theorem takeE_bad {r : Ring} {n : Int} (h : goodR r = false \/ n < 0) : takeE r n = 2 := by unfold takeE; rw [if_pos h]
theorem takeE_full {r : Ring} {n : Int} (h : ¬ (goodR r = false \/ n < 0)) (h2 : n > 24 - r.used) : takeE r n = 6 := by unfold takeE; rw [if_neg h, if_pos h2]
theorem takeE_ok {r : Ring} {n : Int} (h : ¬ (goodR r = false \/ n < 0)) (h2 : ¬ n > 24 - r.used) : takeE r n = 0 := by unfold takeE; rw [if_neg h, if_neg h2]
theorem takeR_bad {r : Ring} {n : Int} (h : takeE r n ≠ 0) : takeR r n = r := by unfold takeR; rw [if_neg h]
theorem takeL_bad {r : Ring} {n : Int} (h : takeE r n ≠ 0) : takeL r n = [] := by unfold takeL; rw [if_neg h]
theorem takeR_ok {r : Ring} {n : Int} (h : takeE r n = 0) : takeR r n = ⟨(r.head + n) % 24, r.used + n⟩ := by unfold takeR; rw [if_pos h]
theorem takeL_ok {r : Ring} {n : Int} (h : takeE r n = 0) : takeL r n = places r.head n.toNat := by unfold takeL; rw [if_pos h]
theorem ring_Take (r : Ring) (n : Int) (w : World) :
    Calls Tryz.prog 119 #[r.val, .int .i64 n] w fun e w' =>
      ∃ v, e = .returned (.tuple #[(takeR r n).val, v, .int .i64 (takeE r n)]) /\ Wb.Own intC w.heap.size 3 1 w' v (takeL r n) /\ Below w.heap.size w w' := by
 obtain ⟨p, u⟩ := r
 have hG := fun w => ring_Good ⟨p, u⟩ w
 have hgi := goodR_iff ⟨p, u⟩
 by_cases hb : goodR ⟨p, u⟩ = false \/ n < 0
 ·rw [takeR_bad (by rw [takeE_bad hb]; decide), takeL_bad (by rw [takeE_bad hb]; decide), takeE_bad hb]
  clear hgi
  generalize goodR ⟨p, u⟩ = g at *
  replace hG := hid hG
  unfold Ring.val at *
  dsimp only at *
  cases g
  ·clear hb
   go_enter Tryz.func119, Tryz.ntmps119
   go_wp2_with (go_at_call 28; refine (hG.out _).mono ?_; rintro e w1 ⟨rfl, hb1⟩; obtain ⟨hbc, hbf⟩ := bcell hb1; have hbz := hb1.size; try simp only [World.size_alloc, World.size_setCell, World.size_drew] at hbz; have hz0 := Nat.lt_of_lt_of_le (n := w.heap.size) (by omega) hbz; have hz1 := Nat.lt_of_lt_of_le (n := w.heap.size + 1) (by omega) hbz)
   exact bodyPost_ret (v := .tuple #[.agg #[.int .i64 p, .int .i64 u], .slice none 0 0, .int .i64 2]) (by simp [results, Tryz.results119, go_sem, hbc]) rfl ⟨_, rfl, Own.nil _ _ _ _ _, by exact Zlo⟩
  ·replace hb : n < 0 := by simpa using hb
   go_enter Tryz.func119, Tryz.ntmps119
   go_wp2_with (go_at_call 28; refine (hG.out _).mono ?_; rintro e w1 ⟨rfl, hb1⟩; obtain ⟨hbc, hbf⟩ := bcell hb1; have hbz := hb1.size; try simp only [World.size_alloc, World.size_setCell, World.size_drew] at hbz; have hz0 := Nat.lt_of_lt_of_le (n := w.heap.size) (by omega) hbz; have hz1 := Nat.lt_of_lt_of_le (n := w.heap.size + 1) (by omega) hbz)
   exact bodyPost_ret (v := .tuple #[.agg #[.int .i64 p, .int .i64 u], .slice none 0 0, .int .i64 2]) (by simp [results, Tryz.results119, go_sem, hbc]) rfl ⟨_, rfl, Own.nil _ _ _ _ _, by exact Zlo⟩
 ·obtain ⟨hg, hn⟩ : goodR ⟨p, u⟩ = true /\ 0 <= n := by simpa using hb
  obtain ⟨g1, g2, g3, g4⟩ := hgi.1 hg
  dsimp only at g1 g2 g3 g4
  rw [hg] at hG
  have hF := fun w => ring_Free ⟨p, u⟩ w g3 g4
  replace hG := hid hG
  replace hF := hid hF
  by_cases hs : n > 24 - u
  ·rw [takeR_bad (by rw [takeE_full hb hs]; decide), takeL_bad (by rw [takeE_full hb hs]; decide), takeE_full hb hs]
   clear hgi hb hg
   unfold Ring.val at *
   dsimp only at *
   go_enter Tryz.func119, Tryz.ntmps119
   go_wp2_with (first | (go_at_call 28; refine (hG.out _).mono ?_; rintro e w1 ⟨rfl, hb1⟩; obtain ⟨hbc, hbf⟩ := bcell hb1; have hbz := hb1.size; try simp only [World.size_alloc, World.size_setCell, World.size_drew] at hbz; have hz0 := Nat.lt_of_lt_of_le (n := w.heap.size) (by omega) hbz; have hz1 := Nat.lt_of_lt_of_le (n := w.heap.size + 1) (by omega) hbz) | (go_at_call 33; refine (hF.out _).mono ?_; rintro e w2 ⟨rfl, hb1⟩; obtain ⟨hbc, hbf⟩ := bcell hb1; have hbz := hb1.size; try simp only [World.size_alloc, World.size_setCell, World.size_drew] at hbz; have hz0 := Nat.lt_of_lt_of_le (n := w.heap.size) (by omega) hbz; have hz1 := Nat.lt_of_lt_of_le (n := w.heap.size + 1) (by omega) hbz))
   exact bodyPost_ret (v := .tuple #[.agg #[.int .i64 p, .int .i64 u], .slice none 0 0, .int .i64 6]) (by simp [results, Tryz.results119, go_sem, *]) rfl ⟨_, rfl, Own.nil _ _ _ _ _, by exact Zlo⟩
  ·rw [takeR_ok (takeE_ok hb hs), takeL_ok (takeE_ok hb hs), takeE_ok hb hs]
   clear hgi hb hg
   unfold Ring.val at *
   dsimp only at *
   go_enter Tryz.func119, Tryz.ntmps119
   go_wp2_with (first | (go_at_call 28; refine (hG.out _).mono ?_; rintro e w1 ⟨rfl, hb1⟩; obtain ⟨hbc, hbf⟩ := bcell hb1; have hbz := hb1.size; try simp only [World.size_alloc, World.size_setCell, World.size_drew] at hbz; have hz0 := Nat.lt_of_lt_of_le (n := w.heap.size) (by omega) hbz; have hz1 := Nat.lt_of_lt_of_le (n := w.heap.size + 1) (by omega) hbz) | (go_at_call 33; refine (hF.out _).mono ?_; rintro e w2 ⟨rfl, hb1⟩; obtain ⟨hbc, hbf⟩ := bcell hb1; have hbz := hb1.size; try simp only [World.size_alloc, World.size_setCell, World.size_drew] at hbz; have hz0 := Nat.lt_of_lt_of_le (n := w.heap.size) (by omega) hbz; have hz1 := Nat.lt_of_lt_of_le (n := w.heap.size + 1) (by omega) hbz))
   have k1 : Blk w2 w.heap.size #[.int .i64 p, .int .i64 u] 26 := (((Blk.new w _ _).alloc _).step (by assumption)).step (by assumption)
   have k2 : Blk w2 (w.heap.size + 1) #[.int .i64 0, .int .i64 0] 26 := ((Blk.newAt (w := w.alloc _) (by simp)).step (by assumption)).step (by assumption)
   have hw2 : Below w.heap.size w w2 := by exact Zlo
   clear hbc hbf
   go_loopw [7, 22] (fun l i wr => ∃ k : Nat, (k : Int) <= n /\ i = .int .i64 k /\ Wb.Own intC (w.heap.size + 2) 3 1 wr l (places p k) /\ Blk wr w.heap.size #[.int .i64 ((p + k) % 24), .int .i64 u] 26 /\ Blk wr (w.heap.size + 1) #[.int .i64 0, .int .i64 0] 26 /\ Below w.heap.size w wr /\ w.heap.size + 1 < wr.heap.size) (fun _ i _ => (n - intOf i).toNat)
   case atStart => exact ⟨0, by omega, rfl, Own.nil _ _ _ _ _, by rw [show (p + ((0 : Nat) : Int)) % 24 = p by omega]; exact k1, k2, hw2, by omega⟩
   case round =>
    obtain ⟨k, hk, rfl, hown, b1, b2, hnx, hz⟩ := hrel
    have hz0 : w.heap.size < wr.heap.size := by omega
    have c0 := b1.cell 0
    have c1 := b1.cell 1
    have f0 := b1.free 0
    have f1 := b1.free 1
    simp only [List.getElem?_toArray, List.getElem?_cons_zero, List.getElem?_cons_succ] at c0 c1
    by_cases hlt : (k : Int) < n
    ·go_wp2_with (at_builtin; (refine wpList_push rfl _ _ _ rfl (w.heap.size + 2) _ 1 8 intC_flat elemInt hown rfl ((p + k) % 24) rfl rfl ?c1 ?c2 ?c3 ?c4))
     case c1 => rw [places_len]; omega
     case c2 => rw [places_len]; unfold maxLen; omega
     case c3 => omega
     case c4 =>
      intro v' w' hown' hbel hgrow
      rw [<- places_succ] at hown'
      have b1' := b1.below hbel (by omega)
      have b2' := b2.below hbel (by omega)
      have hnx' := hnx.trans (hbel.mono (by omega))
      have hz' := hbel.size
      have c0' := b1'.cell 0
      have f0' := b1'.free 0
      simp only [List.getElem?_toArray, List.getElem?_cons_zero, List.getElem?_cons_succ] at c0'
      go_wp2
      go_roundw
      case rel =>
       refine ⟨k + 1, by omega, by go_num, hown'.setCell (by simp) _, ?_, b2'.set_other _ _ (by simp), hnx'.setCell (Nat.le_refl _) _, by simp; omega⟩
       have hbb := b1'.set 0 (.int .i64 ((p + k + 1) % 24))
       rw [show (p + ((k + 1 : Nat) : Int)) = p + k + 1 by omega]
       simpa using hbb
      case measure => simp [intOf]; omega
    ·have c2 := b2.cell 0
     have c3 := b2.cell 1
     have f2 := b2.free 0
     have f3 := b2.free 1
     simp only [List.getElem?_toArray, List.getElem?_cons_zero, List.getElem?_cons_succ] at c2 c3
     go_wp2
     obtain rfl : n = k := by omega
     refine bodyPost_ret (v := .tuple #[.agg #[.int .i64 ((p + k) % 24), .int .i64 (u + k)], u7, .int .i64 0]) (by simp [results, Tryz.results119, go_sem, c0, c1, c2, c3]) rfl ⟨_, rfl, ?_, ?_⟩
     ·rw [Int.toNat_natCast]
      exact (((hown.setCell (by simp) _).setCell (by simp) _).setCell (by simp) _).mono (by omega)
     ·exact Zlo
theorem ring_Give (r : Ring) (n : Int) (w : World) :
    Calls Tryz.prog 81 #[r.val, .int .i64 n] w fun e w' =>
      e = .returned (.tuple #[(giveR r n).val, .int .i64 (giveE r n)]) /\ Below w.heap.size w w' := by
 obtain ⟨p, u⟩ := r
 have hG := fun w => ring_Good ⟨p, u⟩ w
 have hgi := goodR_iff ⟨p, u⟩
 by_cases hb : goodR ⟨p, u⟩ = false \/ n < 0 \/ n > u
 ·have e1 : giveE ⟨p, u⟩ n = 2 := by unfold giveE; rw [if_pos hb]
  have e2 : giveR ⟨p, u⟩ n = ⟨p, u⟩ := by unfold giveR; rw [e1]; rfl
  rw [e1, e2]
  clear hgi e1 e2
  generalize goodR ⟨p, u⟩ = g at *
  replace hG := hid hG
  unfold Ring.val at *
  dsimp only at *
  cases g
  ·clear hb
   go_enter Tryz.func81, Tryz.ntmps81
   go_wp2_with (go_at_call 28; refine (hG.out _).mono ?_; rintro e w1 ⟨rfl, hb1⟩; obtain ⟨hbc, hbf⟩ := bcell hb1; have hbz := hb1.size; try simp only [World.size_alloc, World.size_setCell, World.size_drew] at hbz; have hz0 := Nat.lt_of_lt_of_le (n := w.heap.size) (by omega) hbz; have hz1 := Nat.lt_of_lt_of_le (n := w.heap.size + 1) (by omega) hbz)
   exact bodyPost_ret (v := .tuple #[.agg #[.int .i64 p, .int .i64 u], .int .i64 2]) (by simp [results, Tryz.results81, go_sem, hbc]) rfl ⟨rfl, by exact Zlo⟩
  ·replace hb : n < 0 \/ u < n := by simpa using hb
   by_cases hn : n < 0
   all_goals
    go_enter Tryz.func81, Tryz.ntmps81
    go_wp2_with (go_at_call 28; refine (hG.out _).mono ?_; rintro e w1 ⟨rfl, hb1⟩; obtain ⟨hbc, hbf⟩ := bcell hb1; have hbz := hb1.size; try simp only [World.size_alloc, World.size_setCell, World.size_drew] at hbz; have hz0 := Nat.lt_of_lt_of_le (n := w.heap.size) (by omega) hbz; have hz1 := Nat.lt_of_lt_of_le (n := w.heap.size + 1) (by omega) hbz)
    exact bodyPost_ret (v := .tuple #[.agg #[.int .i64 p, .int .i64 u], .int .i64 2]) (by simp [results, Tryz.results81, go_sem, hbc]) rfl ⟨rfl, by exact Zlo⟩
 ·have e1 : giveE ⟨p, u⟩ n = 0 := by unfold giveE; rw [if_neg hb]
  have e2 : giveR ⟨p, u⟩ n = ⟨p, u - n⟩ := by unfold giveR; rw [e1]; rfl
  rw [e1, e2]
  obtain ⟨hg, hn, hn2⟩ : goodR ⟨p, u⟩ = true /\ 0 <= n /\ n <= u := by simpa using hb
  obtain ⟨g1, g2, g3, g4⟩ := hgi.1 hg
  dsimp only at g1 g2 g3 g4
  rw [hg] at hG
  replace hG := hid hG
  clear hgi hb hg e1 e2
  unfold Ring.val at *
  dsimp only at *
  go_enter Tryz.func81, Tryz.ntmps81
  go_wp2_with ((go_at_call 28; refine (hG.out _).mono ?_; rintro e w1 ⟨rfl, hb1⟩; obtain ⟨hbc, hbf⟩ := bcell hb1; have hbz := hb1.size; try simp only [World.size_alloc, World.size_setCell, World.size_drew] at hbz; have hz0 := Nat.lt_of_lt_of_le (n := w.heap.size) (by omega) hbz; have hz1 := Nat.lt_of_lt_of_le (n := w.heap.size + 1) (by omega) hbz); have c0 : w1.cell? ⟨w.heap.size, 0, none⟩ = some (.int .i64 p) := Blk.cell (((Blk.new w _ _).alloc _).step hb1) 0; have c1 : w1.cell? ⟨w.heap.size, 1, none⟩ = some (.int .i64 u) := Blk.cell (((Blk.new w _ _).alloc _).step hb1) 1; have c2 : w1.cell? ⟨w.heap.size + 1, 0, none⟩ = some (.int .i64 0) := Blk.cell ((Blk.newAt (w := w.alloc _) (by simp)).step hb1) 0; have c3 : w1.cell? ⟨w.heap.size + 1, 1, none⟩ = some (.int .i64 0) := Blk.cell ((Blk.newAt (w := w.alloc _) (by simp)).step hb1) 1; clear hbc)
  exact bodyPost_ret (v := .tuple #[.agg #[.int .i64 p, .int .i64 (u - n)], .int .i64 0]) (by simp [results, Tryz.results81, go_sem, c0, c1, c2, c3, hbf]) rfl ⟨rfl, by exact Zlo⟩
end Go.Proofs.YtjhmfljlclajnacGreatDoor
namespace Wb
open Go Go.RowKit
theorem Blk.c10 {w : World} {g : Nat} {a0 a1 a2 a3 a4 a5 a6 a7 a8 a9 : Value} {T : TypeId} (k : Blk w g #[a0, a1, a2, a3, a4, a5, a6, a7, a8, a9] T) :
    w.cell? ⟨g, 0, none⟩ = some a0 /\ w.cell? ⟨g, 1, none⟩ = some a1 /\ w.cell? ⟨g, 2, none⟩ = some a2 /\ w.cell? ⟨g, 3, none⟩ = some a3 /\ w.cell? ⟨g, 4, none⟩ = some a4 /\ w.cell? ⟨g, 5, none⟩ = some a5 /\ w.cell? ⟨g, 6, none⟩ = some a6 /\ w.cell? ⟨g, 7, none⟩ = some a7 /\ w.cell? ⟨g, 8, none⟩ = some a8 /\ w.cell? ⟨g, 9, none⟩ = some a9 :=
 ⟨k.cell 0, k.cell 1, k.cell 2, k.cell 3, k.cell 4, k.cell 5, k.cell 6, k.cell 7, k.cell 8, k.cell 9⟩
def stepC (l : List Cpy) (k : Nat) : Prop := ∀ (hk : k < l.length), isBlk l[k].block = true /\ l[k].text.size = 32 /\ (∀ (h : 0 < k), l[k - 1].block < l[k].block)
theorem copies_iff (l : List Cpy) : copiesB l = true ↔ ∀ k, k < l.length -> stepC l k := by
 unfold copiesB
 rw [Bool.and_eq_true, rise_iff, List.all_eq_true]
 have hg : ∀ j (hj : j < l.length), (blks l).getD j 0 = l[j].block := fun j hj => by simp [blks, hj]
 have hlen : (blks l).length = l.length := by simp [blks]
 constructor
 ·rintro ⟨h1, h2⟩ k hk hk2
  have := h1 k (by omega)
  unfold riseAt at this
  rw [hg k hk] at this
  refine ⟨decide_eq_true ⟨this.1, this.2.1⟩, of_decide_eq_true (h2 _ (List.getElem_mem hk)), fun h => ?_⟩
  have h3 := this.2.2 h
  rw [hg (k - 1) (by omega)] at h3
  exact h3
 ·intro h
  refine ⟨fun k hk => ?_, fun x hx => ?_⟩
  ·have hk2 : k < l.length := by omega
   obtain ⟨g1, g2, g3⟩ := h k hk2 hk2
   have g1 := of_decide_eq_true g1
   unfold riseAt
   rw [hg k hk2]
   refine ⟨g1.1, g1.2, fun h0 => ?_⟩
   rw [hg (k - 1) (by omega)]
   exact g3 h0
  ·obtain ⟨k, hk, rfl⟩ := List.mem_iff_getElem.1 hx
   exact decide_eq_true (h k hk hk).2.1
theorem copies_bad {l : List Cpy} {k : Nat} (hk : k < l.length) (h : ¬ stepC l k) : copiesB l = false := by
 rw [<- Bool.not_eq_true, copies_iff]
 exact fun hh => h (hh k hk)
def hndC (h : Hnd) : List Value := [.bool h.on, .int .i64 h.left]
end Wb
namespace Go.Proofs.YtjhmfljlclajnacGreatDoor
open Go.RowKit Wb
theorem txn_handle (b : Int) (w : World) : Calls Tryz.prog 126 #[.int .i64 b] w fun e w' => e = .returned (.bool (isHnd b)) /\ w = w' := by
 by_cases h0 : 0 <= b
 ·by_cases h1 : b < 3
  ·have hv : isHnd b = true := decide_eq_true ⟨h0, h1⟩
   rw [hv]
   go_enter Tryz.func126, Tryz.ntmps126
   go_wp2
   go_ret
   exact ⟨rfl, rfl⟩
  ·have hv : isHnd b = false := decide_eq_false fun hh => h1 hh.2
   rw [hv]
   go_enter Tryz.func126, Tryz.ntmps126
   go_wp2
   go_ret
   exact ⟨rfl, rfl⟩
 ·have hv : isHnd b = false := decide_eq_false fun hh => h0 hh.1
  rw [hv]
  go_enter Tryz.func126, Tryz.ntmps126
  go_wp2
  go_ret
  exact ⟨rfl, rfl⟩
theorem txn_copies (l : List Cpy) (v : Value) (w : World) (h : RL cpyC w v l) (hl : l.length <= 5864062014805) :
    Calls Tryz.prog 70 #[v] w fun e w' => e = .returned (.bool (copiesB l)) /\ Below w.heap.size w w' := by
 obtain ⟨a, cap, rfl, _⟩ := h.form
 have hci := copies_iff l
 have hno := fun k hk hh => copies_bad (l := l) (k := k) hk hh
 have hB := fun b w => txn_block b w
 generalize copiesB l = cb at *
 replace h := hid h; replace hci := hid hci; replace hno := hid hno; replace hB := hid hB
 go_enter Tryz.func70, Tryz.ntmps70
 go_wp2
 go_loopw [3, 4, 7] (fun _ _ i wr => ∃ k : Nat, k <= l.length /\ i = .int .i64 k /\ Hid (∀ j, j < k -> stepC l j) /\ Below w.heap.size w wr) (fun _ _ i _ => l.length - (intOf i).toNat)
 case atStart => exact ⟨0, Nat.zero_le _, rfl, hid (fun j hj => absurd hj (Nat.not_lt_zero j)), b0 w⟩
 case round =>
  obtain ⟨k, hk, rfl, hall, nx⟩ := hrel
  by_cases hlt : k < l.length
  ·obtain ⟨b1, o1, rfl, d0, d1⟩ := RL.at2 (fun x => .int .i64 x.block) (fun x => .string x.text) (fun _ => rfl) (h.out.below nx) hlt
   have hsk := hid (show isBlk l[k].block = true -> l[k].text.size = 32 -> (∀ (h : 0 < k), l[k - 1].block < l[k].block) -> ∀ j, j < k + 1 -> stepC l j from fun h1 h2 h3 j hj => by
    by_cases e : j = k
    ·subst e; exact fun _ => ⟨h1, h2, h3⟩
    ·exact hall.out j (by omega))
   have hnk := hid (show ¬ (isBlk l[k].block = true /\ l[k].text.size = 32 /\ (∀ (h : 0 < k), l[k - 1].block < l[k].block)) -> cb = false from fun h => hno.out k hlt (fun hh => h (hh hlt)))
   have hBk := hB.out l[k].block
   by_cases hb : isBlk l[k].block = true
   ·rw [hb] at hBk
    by_cases hs : l[k].text.size = 32
    ·have hs2 : ((l[k].text.size : Int) != 32) = false := by rw [hs]; rfl
     rcases Nat.eq_zero_or_pos k with hk0 | hk0
     ·subst hk0
      have hs3 := hid (hsk.out hb hs (fun h => absurd h (Nat.lt_irrefl 0)))
      simp only [Nat.zero_mul, Nat.add_zero] at d0 d1
      clear hsk hnk hs hb hall
      replace hBk := hid hBk
      generalize l[0] = x at *
      obtain ⟨xb, xt⟩ := x
      dsimp only at *
      have kx := Blk.new wr #[.int .i64 xb, .string xt] 92
      have x0 := kx.cell 0; have x1 := kx.cell 1
      simp only [Zga, Zgb, Zgc] at x0 x1
      go_wp2
      refine wp_region_below (by kernel_rfl) (by kernel_rfl) ?_
      repeat (go_big_quiet_step ((go_at_call 71; exact BW.call_same (hBk.out _))))
      refine wpQuiet_nil ?_
      intro _ hw'
      obtain ⟨⟨wq, hq⟩, rfl⟩ := hw'
      go_wp2
      go_roundw
      case rel => exact ⟨1, by omega, by go_num, hs3, (bal nx _).trans (hq.mono (by have := nx.size; simp; omega))⟩
      case measure => simp [intOf]; omega
     ·obtain ⟨j, rfl⟩ : ∃ j, k = j + 1 := ⟨k - 1, by omega⟩
      have hlj : j < l.length := by omega
      obtain ⟨b2, off2, hbb, d2, d3⟩ := RL.at2 (fun x => .int .i64 x.block) (fun x => .string x.text) (fun _ => rfl) (h.out.below nx) hlj
      simp only [Option.some.injEq, Addr.mk.injEq] at hbb
      obtain ⟨rfl, rfl, _⟩ := hbb
      have e1 : j + 1 - 1 = j := by omega
      by_cases hlt2 : l[j].block < l[j + 1].block
      ·have hs3 := hid (hsk.out hb hs (fun h => hlt2))
       clear hsk hnk hs hb hall
       replace hBk := hid hBk
       generalize l[j + 1] = x at *
       generalize l[j] = y at *
       obtain ⟨xb, xt⟩ := x
       obtain ⟨yb, yt⟩ := y
       dsimp only at *
       have kx := Blk.new wr #[.int .i64 xb, .string xt] 92
       have x0 := kx.cell 0; have x1 := kx.cell 1
       simp only [Zga, Zgb, Zgc] at x0 x1
       have lt1 := World.block_lt_of_cell? _ _ d2
       dsimp only at lt1
       go_wp2
       refine wp_region_below (by kernel_rfl) (by kernel_rfl) ?_
       repeat (go_big_quiet_step ((go_at_call 71; exact BW.call_same (hBk.out _))))
       refine wpQuiet_nil ?_
       intro _ hw'
       obtain ⟨⟨wq, hq⟩, rfl⟩ := hw'
       go_wp2
       go_roundw
       case rel => exact ⟨j + 1 + 1, by omega, by go_num, hs3, (bal nx _).trans (hq.mono (by have := nx.size; simp; omega))⟩
       case measure => simp [intOf]; omega
      ·have hv := hnk.out (fun hh => hlt2 (hh.2.2 (by omega)))
       subst hv
       clear hsk hnk hs hb hall
       replace hBk := hid hBk
       generalize l[j + 1] = x at *
       generalize l[j] = y at *
       obtain ⟨xb, xt⟩ := x
       obtain ⟨yb, yt⟩ := y
       dsimp only at *
       have kx := Blk.new wr #[.int .i64 xb, .string xt] 92
       have x0 := kx.cell 0; have x1 := kx.cell 1
       simp only [Zga, Zgb, Zgc] at x0 x1
       have lt1 := World.block_lt_of_cell? _ _ d2
       dsimp only at lt1
       go_wp2
       refine wp_region_below (by kernel_rfl) (by kernel_rfl) ?_
       repeat (go_big_quiet_step ((go_at_call 71; exact BW.call_same (hBk.out _))))
       refine wpQuiet_nil ?_
       intro _ hw'
       obtain ⟨⟨wq, hq⟩, rfl⟩ := hw'
       go_wp2
       go_ret
       exact ⟨rfl, (bal nx _).trans (hq.mono (by have := nx.size; simp; omega))⟩
    ·have hv := hnk.out (fun hh => hs hh.2.1)
     subst hv
     have hs2 : ((l[k].text.size : Int) != 32) = true := bne_iff_ne.2 (by omega)
     clear hsk hnk hs hb hall
     replace hBk := hid hBk
     generalize l[k] = x at *
     obtain ⟨xb, xt⟩ := x
     dsimp only at *
     have kx := Blk.new wr #[.int .i64 xb, .string xt] 92
     have x0 := kx.cell 0; have x1 := kx.cell 1
     simp only [Zga, Zgb, Zgc] at x0 x1
     go_wp2
     refine wp_region_below (by kernel_rfl) (by kernel_rfl) ?_
     repeat (go_big_quiet_step ((go_at_call 71; exact BW.call_same (hBk.out _))))
     refine wpQuiet_nil ?_
     intro _ hw'
     obtain ⟨⟨wq, hq⟩, rfl⟩ := hw'
     go_wp2
     go_ret
     exact ⟨rfl, (bal nx _).trans (hq.mono (by have := nx.size; simp; omega))⟩
   ·have hv := hnk.out (fun hh => hb hh.1)
    subst hv
    rw [Bool.not_eq_true] at hb
    rw [hb] at hBk
    clear hsk hnk hb hall
    replace hBk := hid hBk
    generalize l[k] = x at *
    obtain ⟨xb, xt⟩ := x
    dsimp only at *
    have kx := Blk.new wr #[.int .i64 xb, .string xt] 92
    have x0 := kx.cell 0; have x1 := kx.cell 1
    simp only [Zga, Zgb, Zgc] at x0 x1
    go_wp2
    refine wp_region_below (by kernel_rfl) (by kernel_rfl) ?_
    repeat (go_big_quiet_step ((go_at_call 71; exact BW.call_same (hBk.out _))))
    refine wpQuiet_nil ?_
    intro _ hw'
    obtain ⟨⟨wq, hq⟩, rfl⟩ := hw'
    go_wp2
    go_ret
    exact ⟨rfl, (bal nx _).trans (hq.mono (by have := nx.size; simp; omega))⟩
  ·have hv := hci.out.2 (fun j hj => hall.out j (by omega))
   subst hv
   clear hall
   go_wp2
   go_ret
   exact ⟨rfl, nx⟩
end Go.Proofs.YtjhmfljlclajnacGreatDoor
namespace Wb
open Go Go.RowKit
theorem apart_rev {t : Txn} {k : Nat} (hk : k < t.rev.length) (h : (!hasB t.mt t.rev[k] && !hasB t.dt t.rev[k]) = false) : apart t = false := by
 unfold apart
 rw [all_no (p := fun b => !hasB t.mt b && !hasB t.dt b) hk h]
 rfl
theorem apart_mt {t : Txn} {k : Nat} (hk : k < t.mt.length) (h : (!hasB t.dt t.mt[k].block) = false) : apart t = false := by
 unfold apart
 rw [all_no (p := fun c : Cpy => !hasB t.dt c.block) hk h, Bool.and_false]
theorem apart_yes {t : Txn} (h1 : ∀ k (hk : k < t.rev.length), (!hasB t.mt t.rev[k] && !hasB t.dt t.rev[k]) = true) (h2 : ∀ k (hk : k < t.mt.length), (!hasB t.dt t.mt[k].block) = true) : apart t = true := by
 unfold apart
 rw [Bool.and_eq_true, List.all_eq_true, List.all_eq_true]
 refine ⟨fun x hx => ?_, fun x hx => ?_⟩
 ·obtain ⟨k, hk, rfl⟩ := List.mem_iff_getElem.1 hx
  exact h1 k hk
 ·obtain ⟨k, hk, rfl⟩ := List.mem_iff_getElem.1 hx
  exact h2 k hk
end Wb
namespace Go.Proofs.YtjhmfljlclajnacGreatDoor
open Go.RowKit Wb
theorem idx3 (w : World) (o0 o1 o2 : Bool) (l0 l1 l2 : Int) :
    (Instr.index 38 (.agg #[.bool o0, .int .i64 l0, .bool o1, .int .i64 l1, .bool o2, .int .i64 l2]) (.int .i64 0)).run Tryz.prog w = .ok (.agg #[.bool o0, .int .i64 l0]) w /\
    (Instr.index 38 (.agg #[.bool o0, .int .i64 l0, .bool o1, .int .i64 l1, .bool o2, .int .i64 l2]) (.int .i64 1)).run Tryz.prog w = .ok (.agg #[.bool o1, .int .i64 l1]) w /\
    (Instr.index 38 (.agg #[.bool o0, .int .i64 l0, .bool o1, .int .i64 l1, .bool o2, .int .i64 l2]) (.int .i64 2)).run Tryz.prog w = .ok (.agg #[.bool o2, .int .i64 l2]) w :=
 ⟨by kernel_rfl, by kernel_rfl, by kernel_rfl⟩
theorem txn_Good (t : Txn) (v : Value) (w : World) (h : RTxn w v t) :
    Calls Tryz.prog 30 #[v] w fun e w' => e = .returned (.bool (goodT t)) /\ Below w.heap.size w w' := by
 obtain ⟨vm, vd, vr, rfl, hm, hd, hr, n1, n2, n3⟩ := h
 obtain ⟨am, cm, rfl, _⟩ := hm.form
 obtain ⟨ad, cd, rfl, _⟩ := hd.form
 obtain ⟨ar, cr, rfl, _⟩ := hr.form
 have hng := fun hh => notGood' (t := t) hh
 have hyes := fun h1 h2 h3 h4 h5 h6 h7 h8 => (goodT_iff t).2 ⟨h1, h2, h3, h4, h5, h6, h7, h8⟩
 have hi3 := fun w => idx3 w t.h0.on t.h1.on t.h2.on t.h0.left t.h1.left t.h2.left
 have hCm := fun w' (nx : Below w.heap.size w w') => txn_copies t.mt _ w' (hm.below nx) n1
 have hCd := fun w' (nx : Below w.heap.size w w') => txn_copies t.dt _ w' (hd.below nx) n2
 have har := fun k hk hh => apart_rev (t := t) (k := k) hk hh
 have ham := fun k hk hh => apart_mt (t := t) (k := k) hk hh
 have hay := fun h1 h2 => apart_yes (t := t) h1 h2
 unfold txnV
 generalize goodT t = gT at *
 have k0 := Blk.new w #[.int .i64 t.seq, .slice am t.mt.length cm, .slice ad t.dt.length cd, .slice ar t.rev.length cr, .bool t.h0.on, .int .i64 t.h0.left, .bool t.h1.on, .int .i64 t.h1.left, .bool t.h2.on, .int .i64 t.h2.left] 40
 have nx := bal (b0 w) (.cells #[.int .i64 t.seq, .slice am t.mt.length cm, .slice ad t.dt.length cd, .slice ar t.rev.length cr, .bool t.h0.on, .int .i64 t.h0.left, .bool t.h1.on, .int .i64 t.h1.left, .bool t.h2.on, .int .i64 t.h2.left] 40)
 obtain ⟨e0, e1, e2, e3, e4, e5, e6, e7, e8, e9⟩ := k0.c10; have l0 := k0.lt
 replace hm := hid hm; replace hd := hid hd; replace hr := hid hr; replace hng := hid hng; replace hyes := hid hyes; replace hi3 := hid hi3; replace har := hid har; replace ham := hid ham; replace hay := hid hay
 have COPM := hid hCm; have COPD := hid hCd
 clear hCm hCd
 by_cases hs1 : t.seq < 1
 ·have hv := hid (hng.out (.inl (decide_eq_false (by omega))))
  go_enter Tryz.func30, Tryz.ntmps30
  go_wp2
  go_ret
  exact ⟨ret_b hv.out.symm, nx⟩
 by_cases hs2 : 2147483647 < t.seq
 ·have hv := hid (hng.out (.inl (decide_eq_false (by omega))))
  go_enter Tryz.func30, Tryz.ntmps30
  go_wp2
  go_ret
  exact ⟨ret_b hv.out.symm, nx⟩
 have hsq : seqOk t.seq = true := decide_eq_true (by omega)
 cases hcm : copiesB t.mt with
 | false =>
  have hv := hid (hng.out (.inr (.inl hcm)))
  have C1 := COPM.out _ nx
  rw [hcm] at C1
  replace C1 := hid C1
  clear hcm
  go_enter Tryz.func30, Tryz.ntmps30
  go_wp2_with (go_at_call_of 70 (Value.slice am t.mt.length cm); ((with_reducible refine C1.out.mono ?_); rintro e w1 ⟨rfl, hb1⟩; replace nx := bgo nx hb1))
  go_ret
  exact ⟨ret_b hv.out.symm, nx⟩
 | true =>
 have C1 := COPM.out _ nx
 rw [hcm] at C1
 cases hcd : copiesB t.dt with
 | false =>
  have hv := hid (hng.out (.inr (.inr (.inl hcd))))
  have C2 := fun w' nx => COPD.out w' nx
  rw [hcd] at C2
  replace C1 := hid C1; replace C2 := hid C2
  clear hcm hcd
  go_enter Tryz.func30, Tryz.ntmps30
  go_wp2_with (go_at_call_of 70 (Value.slice am t.mt.length cm); ((with_reducible refine C1.out.mono ?_); rintro e w1 ⟨rfl, hb1⟩; replace k0 := k0.step hb1; replace nx := bgo nx hb1; clear e0 e1 e2 e3 e4 e5 e6 e7 e8 e9 l0; obtain ⟨e0, e1, e2, e3, e4, e5, e6, e7, e8, e9⟩ := k0.c10; have l0 := k0.lt))
  go_wp2_with (go_at_call_of 70 (Value.slice ad t.dt.length cd); ((with_reducible refine (C2.out _ nx).mono ?_); rintro e w1 ⟨rfl, hb1⟩; replace nx := bgo nx hb1))
  go_ret
  exact ⟨ret_b hv.out.symm, nx⟩
 | true =>
 have C2 := fun w' nx => COPD.out w' nx
 rw [hcd] at C2
 replace C1 := hid C1; replace C2 := hid C2
 have hcm' := hid hcm; have hcd' := hid hcd
 have hcm : rise (blks t.mt) = true := by unfold copiesB at hcm; rw [Bool.and_eq_true] at hcm; exact hcm.1
 have hcd : rise (blks t.dt) = true := by unfold copiesB at hcd; rw [Bool.and_eq_true] at hcd; exact hcd.1
 replace hcm := hid hcm; replace hcd := hid hcd; replace hsq := hid hsq
 clear COPM COPD
 go_enter Tryz.func30, Tryz.ntmps30
 go_wp2_with (go_at_call_of 70 (Value.slice am t.mt.length cm); ((with_reducible refine C1.out.mono ?_); rintro e w1 ⟨rfl, hb1⟩; replace k0 := k0.step hb1; replace nx := bgo nx hb1; clear e0 e1 e2 e3 e4 e5 e6 e7 e8 e9 l0; obtain ⟨e0, e1, e2, e3, e4, e5, e6, e7, e8, e9⟩ := k0.c10; have l0 := k0.lt))
 go_wp2_with (go_at_call_of 70 (Value.slice ad t.dt.length cd); ((with_reducible refine (C2.out _ nx).mono ?_); rintro e w2 ⟨rfl, hb2⟩; replace k0 := k0.step hb2; replace nx := bgo nx hb2; clear e0 e1 e2 e3 e4 e5 e6 e7 e8 e9 l0; obtain ⟨e0, e1, e2, e3, e4, e5, e6, e7, e8, e9⟩ := k0.c10; have l0 := k0.lt))
 clear C1 C2 hb1 hb2
 go_loopw [3, 4, 32] (fun _ _ i wr => ∃ k : Nat, k <= t.rev.length /\ i = .int .i64 k /\ Hid (riseTo t.rev k) /\ Hid (∀ j, j < k -> ∀ (hj : j < t.rev.length), (!hasB t.mt t.rev[j] && !hasB t.dt t.rev[j]) = true) /\ Blk wr w.heap.size #[.int .i64 t.seq, .slice am t.mt.length cm, .slice ad t.dt.length cd, .slice ar t.rev.length cr, .bool t.h0.on, .int .i64 t.h0.left, .bool t.h1.on, .int .i64 t.h1.left, .bool t.h2.on, .int .i64 t.h2.left] 40 /\ Below w.heap.size w wr) (fun _ _ i _ => t.rev.length - (intOf i).toNat)
 case atStart => exact ⟨0, Nat.zero_le _, rfl, hid (fun j hj => absurd hj (Nat.not_lt_zero j)), hid (fun j hj => absurd hj (Nat.not_lt_zero j)), k0, nx⟩
 case round =>
  clear k0 nx e0 e1 e2 e3 e4 e5 e6 e7 e8 e9 l0
  obtain ⟨k, hk, rfl, hri, hap, k0, nx⟩ := hrel
  obtain ⟨e0, e1, e2, e3, e4, e5, e6, e7, e8, e9⟩ := k0.c10; have l0 := k0.lt
  by_cases hlt : k < t.rev.length
  ·obtain ⟨b1, o1, rfl, d0⟩ := RL.at1 (fun x => .int .i64 x) (fun _ => rfl) (hr.out.below nx) hlt
   have hgd : t.rev.getD k 0 = t.rev[k] := by simp [hlt]
   have hno := hid (show ¬ riseAt t.rev k -> gT = false from fun hh => hng.out (.inr (.inr (.inr (.inl (rise_no hlt hh))))))
   have hnA := hid (show (!hasB t.mt t.rev[k] && !hasB t.dt t.rev[k]) = false -> gT = false from fun hh => hng.out (.inr (.inr (.inr (.inr (.inl (har.out k hlt hh)))))))
   have hyA := hid (show (!hasB t.mt t.rev[k] && !hasB t.dt t.rev[k]) = true -> ∀ j, j < k + 1 -> ∀ (hj : j < t.rev.length), (!hasB t.mt t.rev[j] && !hasB t.dt t.rev[j]) = true from fun hh j hj hj2 => by
    by_cases e : j = k
    ·subst e; exact hh
    ·exact hap.out j (by omega) hj2)
   have hBk := txn_block t.rev[k]
   by_cases hb : isBlk t.rev[k] = true
   ·have hb' := of_decide_eq_true hb
    have hBk := fun w => hBk w
    rw [hb] at hBk
    replace hBk := hid hBk
    rcases Nat.eq_zero_or_pos k with hk0 | hk0
    ·subst hk0
     have hr1 := hid (riseTo_succ hri.out (show riseAt t.rev 0 from by unfold riseAt; rw [hgd]; exact ⟨hb'.1, hb'.2, fun h => absurd h (Nat.lt_irrefl 0)⟩))
     simp only [Nat.add_zero] at d0
     clear hno hgd hb hb' hri hap
     generalize t.rev[0] = x at *
     have hMb := hid (fun w' (nx : Below w.heap.size w w') => txn_has t.mt x _ w' hcm.out (hm.out.below nx) n1)
     have hDb := hid (fun w' (nx : Below w.heap.size w w') => txn_has t.dt x _ w' hcd.out (hd.out.below nx) n2)
     by_cases hh1 : hasB t.mt x = true
     ·have hv := hid (hnA.out (by rw [hh1]; rfl))
      have hMb := hid (fun w' nx => by have := hMb.out w' nx; rwa [hh1] at this)
      clear hh1 hDb hnA hyA
      go_wp2_with (go_at_call 71; ((with_reducible refine (hBk.out _).mono ?_); rintro e w1 ⟨rfl, rfl⟩))
      go_wp2_with (go_at_call_of 72 (Value.slice am t.mt.length cm); ((with_reducible refine (hMb.out _ nx).mono ?_); rintro e w2 ⟨rfl, hb2⟩; replace k0 := k0.step hb2; replace nx := bgo nx hb2; clear e0 e1 e2 e3 e4 e5 e6 e7 e8 e9 l0; obtain ⟨e0, e1, e2, e3, e4, e5, e6, e7, e8, e9⟩ := k0.c10; have l0 := k0.lt))
      go_ret
      exact ⟨ret_b hv.out.symm, nx⟩
     ·rw [Bool.not_eq_true] at hh1
      have hMb := hid (fun w' nx => by have := hMb.out w' nx; rwa [hh1] at this)
      by_cases hh2 : hasB t.dt x = true
      ·have hv := hid (hnA.out (by rw [hh1, hh2]; rfl))
       have hDb := hid (fun w' nx => by have := hDb.out w' nx; rwa [hh2] at this)
       clear hh1 hh2 hnA hyA
       go_wp2_with (go_at_call 71; ((with_reducible refine (hBk.out _).mono ?_); rintro e w1 ⟨rfl, rfl⟩))
       go_wp2_with (go_at_call_of 72 (Value.slice am t.mt.length cm); ((with_reducible refine (hMb.out _ nx).mono ?_); rintro e w2 ⟨rfl, hb2⟩; replace k0 := k0.step hb2; replace nx := bgo nx hb2; clear e0 e1 e2 e3 e4 e5 e6 e7 e8 e9 l0; obtain ⟨e0, e1, e2, e3, e4, e5, e6, e7, e8, e9⟩ := k0.c10; have l0 := k0.lt))
       go_wp2_with (go_at_call_of 72 (Value.slice ad t.dt.length cd); ((with_reducible refine (hDb.out _ nx).mono ?_); rintro e w2 ⟨rfl, hb2⟩; replace k0 := k0.step hb2; replace nx := bgo nx hb2; clear e0 e1 e2 e3 e4 e5 e6 e7 e8 e9 l0; obtain ⟨e0, e1, e2, e3, e4, e5, e6, e7, e8, e9⟩ := k0.c10; have l0 := k0.lt))
       go_ret
       exact ⟨ret_b hv.out.symm, nx⟩
      ·rw [Bool.not_eq_true] at hh2
       have hDb := hid (fun w' nx => by have := hDb.out w' nx; rwa [hh2] at this)
       have hy := hid (hyA.out (by rw [hh1, hh2]; rfl))
       clear hh1 hh2 hnA hyA
       go_wp2_with (go_at_call 71; ((with_reducible refine (hBk.out _).mono ?_); rintro e w1 ⟨rfl, rfl⟩))
       go_wp2_with (go_at_call_of 72 (Value.slice am t.mt.length cm); ((with_reducible refine (hMb.out _ nx).mono ?_); rintro e w2 ⟨rfl, hb2⟩; replace k0 := k0.step hb2; replace nx := bgo nx hb2; clear e0 e1 e2 e3 e4 e5 e6 e7 e8 e9 l0; obtain ⟨e0, e1, e2, e3, e4, e5, e6, e7, e8, e9⟩ := k0.c10; have l0 := k0.lt))
       go_wp2_with (go_at_call_of 72 (Value.slice ad t.dt.length cd); ((with_reducible refine (hDb.out _ nx).mono ?_); rintro e w2 ⟨rfl, hb2⟩; replace k0 := k0.step hb2; replace nx := bgo nx hb2; clear e0 e1 e2 e3 e4 e5 e6 e7 e8 e9 l0; obtain ⟨e0, e1, e2, e3, e4, e5, e6, e7, e8, e9⟩ := k0.c10; have l0 := k0.lt))
       go_roundw
       case rel => exact ⟨0 + 1, by omega, by go_num, hr1, hy, k0, nx⟩
       case measure => simp [intOf]; omega
    ·obtain ⟨j, rfl⟩ : ∃ j, k = j + 1 := ⟨k - 1, by omega⟩
     have hlj : j < t.rev.length := by omega
     obtain ⟨b2, off2, hbb, d2⟩ := RL.at1 (fun x => .int .i64 x) (fun _ => rfl) (hr.out.below nx) hlj
     simp only [Option.some.injEq, Addr.mk.injEq] at hbb
     obtain ⟨rfl, rfl, _⟩ := hbb
     have hgj : t.rev.getD j 0 = t.rev[j] := by simp [hlj]
     have hiff : riseAt t.rev (j + 1) ↔ t.rev[j] < t.rev[j + 1] := by
      unfold riseAt
      rw [hgd, Nat.add_sub_cancel, hgj]
      exact ⟨fun h => h.2.2 (by omega), fun h => ⟨hb'.1, hb'.2, fun _ => h⟩⟩
     by_cases hlt2 : t.rev[j] < t.rev[j + 1]
     ·have hr1 := hid (riseTo_succ hri.out (hiff.2 hlt2))
      clear hno hgd hgj hb hb' hri hap hiff
      generalize t.rev[j + 1] = x at *
      generalize t.rev[j] = y at *
      have hMb := hid (fun w' (nx : Below w.heap.size w w') => txn_has t.mt x _ w' hcm.out (hm.out.below nx) n1)
      have hDb := hid (fun w' (nx : Below w.heap.size w w') => txn_has t.dt x _ w' hcd.out (hd.out.below nx) n2)
      by_cases hh1 : hasB t.mt x = true
      ·have hv := hid (hnA.out (by rw [hh1]; rfl))
       have hMb := hid (fun w' nx => by have := hMb.out w' nx; rwa [hh1] at this)
       clear hh1 hDb hnA hyA
       go_wp2_with (go_at_call 71; ((with_reducible refine (hBk.out _).mono ?_); rintro e w1 ⟨rfl, rfl⟩))
       go_wp2_with (go_at_call_of 72 (Value.slice am t.mt.length cm); ((with_reducible refine (hMb.out _ nx).mono ?_); rintro e w2 ⟨rfl, hb2⟩; replace k0 := k0.step hb2; replace nx := bgo nx hb2; clear e0 e1 e2 e3 e4 e5 e6 e7 e8 e9 l0; obtain ⟨e0, e1, e2, e3, e4, e5, e6, e7, e8, e9⟩ := k0.c10; have l0 := k0.lt))
       go_ret
       exact ⟨ret_b hv.out.symm, nx⟩
      ·rw [Bool.not_eq_true] at hh1
       have hMb := hid (fun w' nx => by have := hMb.out w' nx; rwa [hh1] at this)
       by_cases hh2 : hasB t.dt x = true
       ·have hv := hid (hnA.out (by rw [hh1, hh2]; rfl))
        have hDb := hid (fun w' nx => by have := hDb.out w' nx; rwa [hh2] at this)
        clear hh1 hh2 hnA hyA
        go_wp2_with (go_at_call 71; ((with_reducible refine (hBk.out _).mono ?_); rintro e w1 ⟨rfl, rfl⟩))
        go_wp2_with (go_at_call_of 72 (Value.slice am t.mt.length cm); ((with_reducible refine (hMb.out _ nx).mono ?_); rintro e w2 ⟨rfl, hb2⟩; replace k0 := k0.step hb2; replace nx := bgo nx hb2; clear e0 e1 e2 e3 e4 e5 e6 e7 e8 e9 l0; obtain ⟨e0, e1, e2, e3, e4, e5, e6, e7, e8, e9⟩ := k0.c10; have l0 := k0.lt))
        go_wp2_with (go_at_call_of 72 (Value.slice ad t.dt.length cd); ((with_reducible refine (hDb.out _ nx).mono ?_); rintro e w2 ⟨rfl, hb2⟩; replace k0 := k0.step hb2; replace nx := bgo nx hb2; clear e0 e1 e2 e3 e4 e5 e6 e7 e8 e9 l0; obtain ⟨e0, e1, e2, e3, e4, e5, e6, e7, e8, e9⟩ := k0.c10; have l0 := k0.lt))
        go_ret
        exact ⟨ret_b hv.out.symm, nx⟩
       ·rw [Bool.not_eq_true] at hh2
        have hDb := hid (fun w' nx => by have := hDb.out w' nx; rwa [hh2] at this)
        have hy := hid (hyA.out (by rw [hh1, hh2]; rfl))
        clear hh1 hh2 hnA hyA
        go_wp2_with (go_at_call 71; ((with_reducible refine (hBk.out _).mono ?_); rintro e w1 ⟨rfl, rfl⟩))
        go_wp2_with (go_at_call_of 72 (Value.slice am t.mt.length cm); ((with_reducible refine (hMb.out _ nx).mono ?_); rintro e w2 ⟨rfl, hb2⟩; replace k0 := k0.step hb2; replace nx := bgo nx hb2; clear e0 e1 e2 e3 e4 e5 e6 e7 e8 e9 l0; obtain ⟨e0, e1, e2, e3, e4, e5, e6, e7, e8, e9⟩ := k0.c10; have l0 := k0.lt))
        go_wp2_with (go_at_call_of 72 (Value.slice ad t.dt.length cd); ((with_reducible refine (hDb.out _ nx).mono ?_); rintro e w2 ⟨rfl, hb2⟩; replace k0 := k0.step hb2; replace nx := bgo nx hb2; clear e0 e1 e2 e3 e4 e5 e6 e7 e8 e9 l0; obtain ⟨e0, e1, e2, e3, e4, e5, e6, e7, e8, e9⟩ := k0.c10; have l0 := k0.lt))
        go_roundw
        case rel => exact ⟨j + 1 + 1, by omega, by go_num, hr1, hy, k0, nx⟩
        case measure => simp [intOf]; omega
     ·have hv := hid (hno.out (fun hh => hlt2 (hiff.1 hh)))
      clear hno hgd hgj hb hb' hri hap hiff hnA hyA
      generalize t.rev[j + 1] = x at *
      generalize t.rev[j] = y at *
      go_wp2_with (go_at_call 71; ((with_reducible refine (hBk.out _).mono ?_); rintro e w1 ⟨rfl, rfl⟩))
      go_ret
      exact ⟨ret_b hv.out.symm, nx⟩
   ·have hv := hid (hno.out (fun hh => hb (by
      unfold riseAt at hh
      rw [hgd] at hh
      exact decide_eq_true ⟨hh.1, hh.2.1⟩)))
    rw [Bool.not_eq_true] at hb
    have hBk := fun w => hBk w
    rw [hb] at hBk
    replace hBk := hid hBk
    clear hno hgd hb hri hap hnA hyA
    generalize t.rev[k] = x at *
    go_wp2_with (go_at_call 71; ((with_reducible refine (hBk.out _).mono ?_); rintro e w1 ⟨rfl, rfl⟩))
    go_ret
    exact ⟨ret_b hv.out.symm, nx⟩
  ·obtain rfl : k = t.rev.length := by omega
   have hrise := hid ((rise_iff t.rev).2 hri.out)
   have hapr := hid (show ∀ j (hj : j < t.rev.length), (!hasB t.mt t.rev[j] && !hasB t.dt t.rev[j]) = true from fun j hj => hap.out j hj hj)
   clear hri hap
   go_wp2
   go_loopw [6, 70] (fun _ i wr => ∃ k : Nat, k <= t.mt.length /\ i = .int .i64 k /\ Hid (∀ j, j < k -> ∀ (hj : j < t.mt.length), (!hasB t.dt t.mt[j].block) = true) /\ Blk wr w.heap.size #[.int .i64 t.seq, .slice am t.mt.length cm, .slice ad t.dt.length cd, .slice ar t.rev.length cr, .bool t.h0.on, .int .i64 t.h0.left, .bool t.h1.on, .int .i64 t.h1.left, .bool t.h2.on, .int .i64 t.h2.left] 40 /\ Below w.heap.size w wr) (fun _ i _ => t.mt.length - (intOf i).toNat)
   case atStart => exact ⟨0, Nat.zero_le _, rfl, hid (fun j hj => absurd hj (Nat.not_lt_zero j)), k0, nx⟩
   case round =>
    clear k0 nx e0 e1 e2 e3 e4 e5 e6 e7 e8 e9 l0
    obtain ⟨k, hk, rfl, hap, k0, nx⟩ := hrel
    obtain ⟨e0, e1, e2, e3, e4, e5, e6, e7, e8, e9⟩ := k0.c10; have l0 := k0.lt
    by_cases hlt : k < t.mt.length
    ·obtain ⟨b1, o1, rfl, d0, d1⟩ := RL.at2 (fun x => .int .i64 x.block) (fun x => .string x.text) (fun _ => rfl) (hm.out.below nx) hlt
     have hnA := hid (show (!hasB t.dt t.mt[k].block) = false -> gT = false from fun hh => hng.out (.inr (.inr (.inr (.inr (.inl (ham.out k hlt hh)))))))
     have hyA := hid (show (!hasB t.dt t.mt[k].block) = true -> ∀ j, j < k + 1 -> ∀ (hj : j < t.mt.length), (!hasB t.dt t.mt[j].block) = true from fun hh j hj hj2 => by
      by_cases e : j = k
      ·subst e; exact hh
      ·exact hap.out j (by omega) hj2)
     generalize t.mt[k] = c at *
     obtain ⟨x, ct⟩ := c
     dsimp only at *
     have hDb := hid (fun w' (nx : Below w.heap.size w w') => txn_has t.dt x _ w' hcd.out (hd.out.below nx) n2)
     replace k0 := k0.alloc (.cells #[.int .i64 x, .string ct] 92)
     have nx' := nx
     replace nx := bal nx (.cells #[.int .i64 x, .string ct] 92)
     clear e0 e1 e2 e3 e4 e5 e6 e7 e8 e9 l0; obtain ⟨e0, e1, e2, e3, e4, e5, e6, e7, e8, e9⟩ := k0.c10; have l0 := k0.lt
     have kx := Blk.new wr #[.int .i64 x, .string ct] 92
     have x0 := kx.cell 0
     simp only [Zga, Zgb, Zgc] at x0
     by_cases hh2 : hasB t.dt x = true
     ·have hv := hid (hnA.out (by rw [hh2]; rfl))
      have hDb := hid (fun w' nx => by have := hDb.out w' nx; rwa [hh2] at this)
      clear hh2 hnA hyA hap
      go_wp2_with (go_at_call_of 72 (Value.slice ad t.dt.length cd); ((with_reducible refine (hDb.out _ nx).mono ?_); rintro e w2 ⟨rfl, hb2⟩; replace k0 := k0.step hb2; replace nx := bgo nx hb2; clear e0 e1 e2 e3 e4 e5 e6 e7 e8 e9 l0; obtain ⟨e0, e1, e2, e3, e4, e5, e6, e7, e8, e9⟩ := k0.c10; have l0 := k0.lt))
      go_ret
      exact ⟨ret_b hv.out.symm, nx⟩
     ·rw [Bool.not_eq_true] at hh2
      have hDb := hid (fun w' nx => by have := hDb.out w' nx; rwa [hh2] at this)
      have hy := hid (hyA.out (by rw [hh2]; rfl))
      clear hh2 hnA hyA hap
      go_wp2_with (go_at_call_of 72 (Value.slice ad t.dt.length cd); ((with_reducible refine (hDb.out _ nx).mono ?_); rintro e w2 ⟨rfl, hb2⟩; replace k0 := k0.step hb2; replace nx := bgo nx hb2; clear e0 e1 e2 e3 e4 e5 e6 e7 e8 e9 l0; obtain ⟨e0, e1, e2, e3, e4, e5, e6, e7, e8, e9⟩ := k0.c10; have l0 := k0.lt))
      go_roundw
      case rel => first | exact ⟨k + 1, by omega, by go_num, hy, k0, nx⟩ | ((repeat apply Exists.intro); refine ⟨⟨k + 1, by omega, ?_, hy, k0, nx⟩, rfl⟩; go_num)
      case measure => simp [intOf]; omega
    ·obtain rfl : k = t.mt.length := by omega
     have hapm := hid (hay.out hapr.out (fun j hj => hap.out j hj hj))
     clear hap hapr
     go_wp2
     go_loopw [8, 82] (fun _ i wr => ∃ k : Nat, k <= 3 /\ i = .int .i64 k /\ Hid (∀ j, j < k -> (if j = 0 then hOk t.h0 else if j = 1 then hOk t.h1 else hOk t.h2) = true) /\ Blk wr w.heap.size #[.int .i64 t.seq, .slice am t.mt.length cm, .slice ad t.dt.length cd, .slice ar t.rev.length cr, .bool t.h0.on, .int .i64 t.h0.left, .bool t.h1.on, .int .i64 t.h1.left, .bool t.h2.on, .int .i64 t.h2.left] 40 /\ Below w.heap.size w wr) (fun _ i _ => 3 - (intOf i).toNat)
     case atStart => exact ⟨0, by decide, rfl, hid (fun j hj => absurd hj (Nat.not_lt_zero j)), k0, nx⟩
     case round =>
      clear k0 nx e0 e1 e2 e3 e4 e5 e6 e7 e8 e9 l0
      obtain ⟨k, hk, rfl, hall, k0, nx⟩ := hrel
      have l0 := k0.lt
      by_cases hlt : k < 3
      ·obtain (rfl | rfl | rfl) : k = 0 \/ k = 1 \/ k = 2 := by omega
       ·have hi := hi3.out wr
        replace hi := hi.1
        have hof := hOk_iff' t.h0
        have hnh := fun hh => hng.out (.inr (.inr (.inr (.inr (.inr (.inl hh))))))
        generalize t.h0.on = o at *
        generalize hle : t.h0.left = lf at *
        replace hnh := hid hnh; replace hle := hid hle
        by_cases hoo : hOk t.h0 = true
        ·obtain ⟨a1, a2, a3⟩ := hof.1 hoo
         have hoo2 := hid hoo
         have hall2 := hid (show ∀ j, j < 0 + 1 -> (if j = 0 then hOk t.h0 else if j = 1 then hOk t.h1 else hOk t.h2) = true from by
          intro j hj
          by_cases e : j = 0
          ·subst e; exact hoo2.out
          ·exact hall.out j (by omega))
         clear hof hoo
         by_cases hz : lf = 0
         ·subst hz
          cases o
          ·go_wp2
           go_roundw
           case rel => first | exact ⟨0 + 1, by decide, rfl, hall2, k0.alloc _, bal nx _⟩ | ((repeat apply Exists.intro); exact ⟨⟨0 + 1, by decide, rfl, hall2, k0.alloc _, bal nx _⟩, rfl⟩)
           case measure => simp [intOf]
          ·go_wp2
           go_roundw
           case rel => first | exact ⟨0 + 1, by decide, rfl, hall2, k0.alloc _, bal nx _⟩ | ((repeat apply Exists.intro); exact ⟨⟨0 + 1, by decide, rfl, hall2, k0.alloc _, bal nx _⟩, rfl⟩)
           case measure => simp [intOf]
         ·have ho : o = true := a3.resolve_right hz
          have hz2 : 0 < lf := by omega
          subst ho
          clear hz a3
          go_wp2
          go_roundw
          case rel => first | exact ⟨0 + 1, by decide, rfl, hall2, k0.alloc _, bal nx _⟩ | ((repeat apply Exists.intro); exact ⟨⟨0 + 1, by decide, rfl, hall2, k0.alloc _, bal nx _⟩, rfl⟩)
          case measure => simp [intOf]
        ·replace hoo : hOk t.h0 = false := by simpa using hoo
         have hgf := hid (hnh.out hoo)
         have hof2 : ¬ (0 <= lf /\ lf <= 24 /\ (o = true \/ lf = 0)) := fun h => by rw [hof.2 h] at hoo; cases hoo
         clear hof hoo
         by_cases q1 : lf < 0
         ·clear hof2
          go_wp2
          go_ret
          exact ⟨ret_b hgf.out.symm, bal nx _⟩
         ·by_cases q2 : 24 < lf
          ·clear hof2
           go_wp2
           go_ret
           exact ⟨ret_b hgf.out.symm, bal nx _⟩
          ·have q3 : (lf != 0) = true := bne_iff_ne.2 (fun hz => hof2 ⟨by omega, by omega, .inr hz⟩)
           have q4 : o = false := by
            cases o
            ·rfl
            ·exact absurd ⟨by omega, by omega, .inl rfl⟩ hof2
           subst q4
           clear hof2
           go_wp2
           go_ret
           exact ⟨ret_b hgf.out.symm, bal nx _⟩
       ·have hi := hi3.out wr
        replace hi := hi.2.1
        have hof := hOk_iff' t.h1
        have hnh := fun hh => hng.out (.inr (.inr (.inr (.inr (.inr (.inr (.inl hh)))))))
        generalize t.h1.on = o at *
        generalize hle : t.h1.left = lf at *
        replace hnh := hid hnh; replace hle := hid hle
        by_cases hoo : hOk t.h1 = true
        ·obtain ⟨a1, a2, a3⟩ := hof.1 hoo
         have hoo2 := hid hoo
         have hall2 := hid (show ∀ j, j < 1 + 1 -> (if j = 0 then hOk t.h0 else if j = 1 then hOk t.h1 else hOk t.h2) = true from by
          intro j hj
          by_cases e : j = 1
          ·subst e; exact hoo2.out
          ·exact hall.out j (by omega))
         clear hof hoo
         by_cases hz : lf = 0
         ·subst hz
          cases o
          ·go_wp2
           go_roundw
           case rel => first | exact ⟨1 + 1, by decide, rfl, hall2, k0.alloc _, bal nx _⟩ | ((repeat apply Exists.intro); exact ⟨⟨1 + 1, by decide, rfl, hall2, k0.alloc _, bal nx _⟩, rfl⟩)
           case measure => simp [intOf]
          ·go_wp2
           go_roundw
           case rel => first | exact ⟨1 + 1, by decide, rfl, hall2, k0.alloc _, bal nx _⟩ | ((repeat apply Exists.intro); exact ⟨⟨1 + 1, by decide, rfl, hall2, k0.alloc _, bal nx _⟩, rfl⟩)
           case measure => simp [intOf]
         ·have ho : o = true := a3.resolve_right hz
          have hz2 : 0 < lf := by omega
          subst ho
          clear hz a3
          go_wp2
          go_roundw
          case rel => first | exact ⟨1 + 1, by decide, rfl, hall2, k0.alloc _, bal nx _⟩ | ((repeat apply Exists.intro); exact ⟨⟨1 + 1, by decide, rfl, hall2, k0.alloc _, bal nx _⟩, rfl⟩)
          case measure => simp [intOf]
        ·replace hoo : hOk t.h1 = false := by simpa using hoo
         have hgf := hid (hnh.out hoo)
         have hof2 : ¬ (0 <= lf /\ lf <= 24 /\ (o = true \/ lf = 0)) := fun h => by rw [hof.2 h] at hoo; cases hoo
         clear hof hoo
         by_cases q1 : lf < 0
         ·clear hof2
          go_wp2
          go_ret
          exact ⟨ret_b hgf.out.symm, bal nx _⟩
         ·by_cases q2 : 24 < lf
          ·clear hof2
           go_wp2
           go_ret
           exact ⟨ret_b hgf.out.symm, bal nx _⟩
          ·have q3 : (lf != 0) = true := bne_iff_ne.2 (fun hz => hof2 ⟨by omega, by omega, .inr hz⟩)
           have q4 : o = false := by
            cases o
            ·rfl
            ·exact absurd ⟨by omega, by omega, .inl rfl⟩ hof2
           subst q4
           clear hof2
           go_wp2
           go_ret
           exact ⟨ret_b hgf.out.symm, bal nx _⟩
       ·have hi := hi3.out wr
        replace hi := hi.2.2
        have hof := hOk_iff' t.h2
        have hnh := fun hh => hng.out (.inr (.inr (.inr (.inr (.inr (.inr (.inr hh)))))))
        generalize t.h2.on = o at *
        generalize hle : t.h2.left = lf at *
        replace hnh := hid hnh; replace hle := hid hle
        by_cases hoo : hOk t.h2 = true
        ·obtain ⟨a1, a2, a3⟩ := hof.1 hoo
         have hoo2 := hid hoo
         have hall2 := hid (show ∀ j, j < 2 + 1 -> (if j = 0 then hOk t.h0 else if j = 1 then hOk t.h1 else hOk t.h2) = true from by
          intro j hj
          by_cases e : j = 2
          ·subst e; exact hoo2.out
          ·exact hall.out j (by omega))
         clear hof hoo
         by_cases hz : lf = 0
         ·subst hz
          cases o
          ·go_wp2
           go_roundw
           case rel => first | exact ⟨2 + 1, by decide, rfl, hall2, k0.alloc _, bal nx _⟩ | ((repeat apply Exists.intro); exact ⟨⟨2 + 1, by decide, rfl, hall2, k0.alloc _, bal nx _⟩, rfl⟩)
           case measure => simp [intOf]
          ·go_wp2
           go_roundw
           case rel => first | exact ⟨2 + 1, by decide, rfl, hall2, k0.alloc _, bal nx _⟩ | ((repeat apply Exists.intro); exact ⟨⟨2 + 1, by decide, rfl, hall2, k0.alloc _, bal nx _⟩, rfl⟩)
           case measure => simp [intOf]
         ·have ho : o = true := a3.resolve_right hz
          have hz2 : 0 < lf := by omega
          subst ho
          clear hz a3
          go_wp2
          go_roundw
          case rel => first | exact ⟨2 + 1, by decide, rfl, hall2, k0.alloc _, bal nx _⟩ | ((repeat apply Exists.intro); exact ⟨⟨2 + 1, by decide, rfl, hall2, k0.alloc _, bal nx _⟩, rfl⟩)
          case measure => simp [intOf]
        ·replace hoo : hOk t.h2 = false := by simpa using hoo
         have hgf := hid (hnh.out hoo)
         have hof2 : ¬ (0 <= lf /\ lf <= 24 /\ (o = true \/ lf = 0)) := fun h => by rw [hof.2 h] at hoo; cases hoo
         clear hof hoo
         by_cases q1 : lf < 0
         ·clear hof2
          go_wp2
          go_ret
          exact ⟨ret_b hgf.out.symm, bal nx _⟩
         ·by_cases q2 : 24 < lf
          ·clear hof2
           go_wp2
           go_ret
           exact ⟨ret_b hgf.out.symm, bal nx _⟩
          ·have q3 : (lf != 0) = true := bne_iff_ne.2 (fun hz => hof2 ⟨by omega, by omega, .inr hz⟩)
           have q4 : o = false := by
            cases o
            ·rfl
            ·exact absurd ⟨by omega, by omega, .inl rfl⟩ hof2
           subst q4
           clear hof2
           go_wp2
           go_ret
           exact ⟨ret_b hgf.out.symm, bal nx _⟩
      ·obtain rfl : k = 3 := by omega
       have hv := hid (hyes.out hsq.out hcm'.out hcd'.out hrise.out hapm.out (hall.out 0 (by decide)) (hall.out 1 (by decide)) (hall.out 2 (by decide)))
       clear hall
       go_wp2
       go_ret
       exact ⟨ret_b hv.out.symm, nx⟩
end Go.Proofs.YtjhmfljlclajnacGreatDoor
namespace Wb
open Go Go.RowKit
theorem w64 (x : Int) : RowKit.wrap64 x = IntKind.i64.wrap x := by
 first
  | rfl
  | (unfold RowKit.wrap64; rw [IntKind.wrap_i64])
  | (unfold RowKit.wrap64; simp [IntKind.wrap, IntKind.bits, IntKind.signed])
def askP (t : Txn) : Nat -> Int
 | 0 => ((t.mt.length + t.rev.length : Nat) : Int)
 | 1 => IntKind.i64.wrap (((t.mt.length + t.rev.length : Nat) : Int) + t.h0.left)
 | 2 => IntKind.i64.wrap (IntKind.i64.wrap (((t.mt.length + t.rev.length : Nat) : Int) + t.h0.left) + t.h1.left)
 | _ => askedI t
end Wb
namespace Go.Proofs.YtjhmfljlclajnacGreatDoor
open Go.RowKit Wb
theorem txn_Asked (t : Txn) (v : Value) (w : World) (h : RTxn w v t) :
    Calls Tryz.prog 32 #[v] w fun e w' => e = .returned (.int .i64 (askedI t)) /\ Below w.heap.size w w' := by
 obtain ⟨vm, vd, vr, rfl, hm, hd, hr, n1, n2, n3⟩ := h
 obtain ⟨am, cm, rfl, _⟩ := hm.form
 obtain ⟨ad, cd, rfl, _⟩ := hd.form
 obtain ⟨ar, cr, rfl, _⟩ := hr.form
 have hi3 := fun w => idx3 w t.h0.on t.h1.on t.h2.on t.h0.left t.h1.left t.h2.left
 have h0 : askP t 0 = (t.mt.length : Int) + (t.rev.length : Int) := by show ((t.mt.length + t.rev.length : Nat) : Int) = _; omega
 have h3 : askP t 3 = askedI t := rfl
 have hw : IntKind.i64.wrap ((t.mt.length : Int) + (t.rev.length : Int)) = (t.mt.length : Int) + (t.rev.length : Int) := IntWalk.i64_in _ (by omega)
 unfold txnV
 generalize askedI t = aI at *
 have k0 := Blk.new w #[.int .i64 t.seq, .slice am t.mt.length cm, .slice ad t.dt.length cd, .slice ar t.rev.length cr, .bool t.h0.on, .int .i64 t.h0.left, .bool t.h1.on, .int .i64 t.h1.left, .bool t.h2.on, .int .i64 t.h2.left] 40
 have nx := bal (b0 w) (.cells #[.int .i64 t.seq, .slice am t.mt.length cm, .slice ad t.dt.length cd, .slice ar t.rev.length cr, .bool t.h0.on, .int .i64 t.h0.left, .bool t.h1.on, .int .i64 t.h1.left, .bool t.h2.on, .int .i64 t.h2.left] 40)
 obtain ⟨e0, e1, e2, e3, e4, e5, e6, e7, e8, e9⟩ := k0.c10; have l0 := k0.lt
 replace hi3 := hid hi3; replace h0 := hid h0; replace h3 := hid h3
 clear hm hd hr
 go_enter Tryz.func32, Tryz.ntmps32
 go_wp2
 go_loopw [3, 5, 15] (fun s _ i wr => ∃ k : Nat, k <= 3 /\ i = .int .i64 k /\ s = .int .i64 (askP t k) /\ Blk wr w.heap.size #[.int .i64 t.seq, .slice am t.mt.length cm, .slice ad t.dt.length cd, .slice ar t.rev.length cr, .bool t.h0.on, .int .i64 t.h0.left, .bool t.h1.on, .int .i64 t.h1.left, .bool t.h2.on, .int .i64 t.h2.left] 40 /\ Below w.heap.size w wr) (fun _ _ i _ => 3 - (intOf i).toNat)
 case atStart => exact ⟨0, by decide, rfl, by rw [h0.out], k0, nx⟩
 case round =>
  clear k0 nx e0 e1 e2 e3 e4 e5 e6 e7 e8 e9 l0
  obtain ⟨k, hk, rfl, rfl, k0, nx⟩ := hrel
  have l0 := k0.lt
  by_cases hlt : k < 3
  ·obtain (rfl | rfl | rfl) : k = 0 \/ k = 1 \/ k = 2 := by omega
   ·have hi := hi3.out wr
    replace hi := hi.1
    have hs := hid (show askP t (0 + 1) = RowKit.wrap64 (askP t 0 + t.h0.left) from (w64 _).symm)
    generalize askP t 0 = a0 at *
    go_wp2
    go_roundw
    case rel => first | exact ⟨0 + 1, by decide, rfl, by rw [hs.out], k0.alloc _, bal nx _⟩ | ((repeat apply Exists.intro); exact ⟨⟨0 + 1, by decide, rfl, by rw [hs.out], k0.alloc _, bal nx _⟩, rfl⟩)
    case measure => simp [intOf]
   ·have hi := hi3.out wr
    replace hi := hi.2.1
    have hs := hid (show askP t (1 + 1) = RowKit.wrap64 (askP t 1 + t.h1.left) from (w64 _).symm)
    generalize askP t 1 = a0 at *
    go_wp2
    go_roundw
    case rel => first | exact ⟨1 + 1, by decide, rfl, by rw [hs.out], k0.alloc _, bal nx _⟩ | ((repeat apply Exists.intro); exact ⟨⟨1 + 1, by decide, rfl, by rw [hs.out], k0.alloc _, bal nx _⟩, rfl⟩)
    case measure => simp [intOf]
   ·have hi := hi3.out wr
    replace hi := hi.2.2
    have hs := hid (show askP t (2 + 1) = RowKit.wrap64 (askP t 2 + t.h2.left) from (w64 _).symm)
    generalize askP t 2 = a0 at *
    go_wp2
    go_roundw
    case rel => first | exact ⟨2 + 1, by decide, rfl, by rw [hs.out], k0.alloc _, bal nx _⟩ | ((repeat apply Exists.intro); exact ⟨⟨2 + 1, by decide, rfl, by rw [hs.out], k0.alloc _, bal nx _⟩, rfl⟩)
    case measure => simp [intOf]
  ·obtain rfl : k = 3 := by omega
   rw [h3.out]
   go_wp2
   go_ret
   exact ⟨rfl, nx⟩
end Go.Proofs.YtjhmfljlclajnacGreatDoor
