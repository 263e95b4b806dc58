/- Parts of the proof. -/
import Derived.Test.YtjhmfljlclajnadGreatDoorKTopOrdered14
import Derived.Test.YtjhmfljlclajnadGreatDoorUDec2a
import Derived.Test.YtjhmfljlclajnadGreatDoorUDec2b
import Derived.Test.YtjhmfljlclajnadGreatDoorUDec2c
import Derived.Test.YtjhmfljlclajnadGreatDoorUDec2d
set_option linter.unusedVariables false
set_option linter.unusedSimpArgs false
set_option maxRecDepth 100000
set_option maxHeartbeats 40000000
namespace Wb
open Go Go.RowKit
theorem IMap.own_ne {w : World} {b : Nat} {f : Int -> Option Value} (h : IMap w b f) {α : Type} {g : α -> List Value} {base : Nat} {e : TypeId} {c : Nat} {v : Value} {l : List α} (ho : Own g base e c w v l) : some b ≠ v.ownBlock := by
 intro hh
 obtain ⟨cur, hc⟩ := ho.cellsOf hh.symm
 obtain ⟨es, clk, h1, _⟩ := h
 rw [hc] at h1
 cases h1
end Wb
namespace Go.Proofs.YtjhmfljlclajnadGreatDoor
open Go.RowKit Wb
theorem scan_Replay (l : List Txn) (hg : ∀ t ∈ l, goodT t = true) (v : Value) (w : World) (h : RTxns w v l) :
    Calls Tryz.prog 51 #[v] w fun e w' => ∃ v', e = .returned v' /\ Wb.Own cpyC w.heap.size 63 2 w' v' (newestL l) /\ Below w.heap.size w w' := by
 obtain ⟨a, cap, rfl, hl⟩ := h.form
 have hmm := @run_makeMap Tryz.prog
 have hlk := fun (w : World) b f (im : IMap w b f) k => (im.lookup (P := Tryz.prog) Tryz.underlying154 Tryz.underlying3 (e := 3) (z := .int .i64 0) (by kernel_rfl) k).1
 have hlk2 := fun (w : World) b f (im : IMap w b f) k => (im.lookup (P := Tryz.prog) Tryz.underlying155 Tryz.underlying3 (e := 9) (z := .string ⟨#[]⟩) (by kernel_rfl) k).2
 have hup := fun (w : World) b f (im : IMap w b f) k v => im.update (P := Tryz.prog) Tryz.underlying154 Tryz.underlying3 k v
 have hup2 := fun (w : World) b f (im : IMap w b f) k v => im.update (P := Tryz.prog) Tryz.underlying155 Tryz.underlying3 k v
 have hgk := fun k (hk : k < l.length) => hg l[k] (List.getElem_mem hk)
 have hrs := fun k (hk : k < l.length) b => rho_step hk b
 have hrl := fun b => rho_le l l.length b
 have hts := fun r k (hk : k < l.length) b => txF_step hk r b
 have hfin := txF_newest hg
 have hvs := fun k => viewN_succ (newestB l) k
 have hvn := fun k => viewN_len (newestB l) k
 have hnl : newestL l = viewN (newestB l) 12 := rfl
 have hv0 : viewN (newestB l) 0 = [] := rfl
 have hr0 : ∀ b, (none : Option Value) = revV (rho l 0) b := fun b => rfl
 have ht0 : ∀ r b, (none : Option Value) = txtV (txF l r 0) b := fun r b => rfl
 rw [hnl]
 replace h := hid h; replace hlk := hid hlk; replace hlk2 := hid hlk2; replace hup := hid hup; replace hup2 := hid hup2; replace hgk := hid hgk; replace hrs := hid hrs; replace hts := hid hts; replace hfin := hid hfin; replace hvs := hid hvs; replace hvn := hid hvn; replace hv0 := hid hv0; replace hr0 := hid hr0; replace ht0 := hid ht0; replace hrl := hid hrl
 clear hnl hg
 go_enter Tryz.func51, Tryz.ntmps51
 go_wp2
 go_loopw [20] (fun i wr => ∃ k : Nat, k <= l.length /\ i = .int .i64 k /\ IMap wr w.heap.size (revV (rho l k)) /\ Below w.heap.size w wr) (fun i _ => l.length - (intOf i).toNat)
 case atStart => exact ⟨0, Nat.zero_le _, rfl, (IMap.made w).congr hr0.out, bal (b0 w) _⟩
 case round =>
  obtain ⟨wo, rfl⟩ : ∃ wo : World, wo = wr := ⟨_, rfl⟩
  obtain ⟨k, hk, rfl, im, nx⟩ := hrel
  by_cases hlt : k < l.length
  ·obtain ⟨b1, o1, am, cm, ad, cd, ar, cr, rfl, hrt, c0, c1, c2, c3, c4, c5, c6, c7, c8, c9⟩ := h.out.at3 hlt
   replace c0 := cell_below nx c0; replace c1 := cell_below nx c1; replace c2 := cell_below nx c2; replace c3 := cell_below nx c3; replace c4 := cell_below nx c4; replace c5 := cell_below nx c5; replace c6 := cell_below nx c6; replace c7 := cell_below nx c7; replace c8 := cell_below nx c8; replace c9 := cell_below nx c9
   have hstk := hrs.out k hlt
   generalize l[k] = t at *
   obtain ⟨vm', vd', vr', hv, hm, hd, hr, n1, n2, n3⟩ := hrt
   simp only [txnV, Value.agg.injEq, Array.mk.injEq, List.cons.injEq, and_true, true_and] at hv
   obtain ⟨rfl, rfl, rfl⟩ := hv
   have hj0 : ∀ b, revV (rho l k) b = revV (fun b => if inI (t.rev.take 0) b then k + 1 else rho l k b) b := fun b => rfl
   have hjs := fun j (hj : j < t.rev.length) b => inI_step (l := t.rev) (b := b) hj
   have hjn : ∀ b, revV (fun b => if inI (t.rev.take t.rev.length) b then k + 1 else rho l k b) b = revV (rho l (k + 1)) b := fun b => by
    unfold revV; rw [hstk b, List.take_length]
   generalize rho l k = g at *
   generalize hge : rho l (k + 1) = g' at *
   replace hge := hid hge; replace hr := hid hr; replace hj0 := hid hj0; replace hjs := hid hjs; replace hjn := hid hjn
   clear hstk hm hd
   have hk3 : k <= 1099511627744 := by omega
   go_wp2
   go_loopw [7, 28] (fun _ i wr => ∃ j : Nat, j <= t.rev.length /\ i = .int .i64 j /\ IMap wr w.heap.size (revV (fun b => if inI (t.rev.take j) b then k + 1 else g b)) /\ Below w.heap.size w wr) (fun _ i _ => t.rev.length - (intOf i).toNat)
   case atStart => exact ⟨0, Nat.zero_le _, rfl, (im.congr hj0.out).alloc _, bal nx _⟩
   case round =>
    clear im nx c0 c1 c2 c3 c4 c5 c6 c7 c8 c9
    obtain ⟨j, hj, rfl, im, nx⟩ := hrel
    by_cases hlt2 : j < t.rev.length
    ·obtain ⟨b3, o3, rfl, d0⟩ := RL.at1 (fun x => .int .i64 x) (fun _ => rfl) (hr.out.below nx) hlt2
     have hsj := hjs.out j hlt2
     generalize t.rev[j] = x at *
     obtain ⟨wu, hrun, imu, htu⟩ := hup.out wr _ _ im x (.int .i64 ((k : Int) + 1))
     have hsu := hid (imu.congr (g := revV (fun b => if inI (t.rev.take (j + 1)) b then k + 1 else g b)) (fun b => by
      unfold revV
      simp only [hsj b]
      by_cases hb : b = x
      ·have e1 : (x == b) = true := beq_iff_eq.2 hb.symm
       rw [if_pos hb, e1, Bool.or_true]; simp
      ·have e1 : (x == b) = false := beq_eq_false_iff_ne.2 (fun hh => hb hh.symm)
       rw [if_neg hb, e1, Bool.or_false]))
     clear imu hsj
     go_wp2
     go_roundw
     case rel => exact ⟨j + 1, by omega, by go_num, hsu.out, htu.below nx (Nat.le_refl _)⟩
     case measure => simp [intOf]; omega
    ·obtain rfl : j = t.rev.length := by omega
     have im2 := hid (im.congr hjn.out)
     go_wp2
     go_roundw
     case rel => exact ⟨k + 1, by omega, by go_num, by rw [hge.out]; exact im2.out, nx⟩
     case measure => simp [intOf]; omega
  ·obtain rfl : k = l.length := by omega
   have hr2 := hrl.out
   generalize hrr : rho l l.length = r at *
   replace hrr := hid hrr
   replace hr2 := hid hr2
   have imt := (IMap.made wo).congr (ht0.out r)
   have hts := hts.out r
   replace hts := hid hts
   have ltw := im.lt
   have im := im.alloc (.map #[] 0)
   have nx := bal nx (.map #[] 0)
   have hne : w.heap.size ≠ wo.heap.size := by omega
   obtain ⟨B, hB⟩ : ∃ B, wo.heap.size = B := ⟨_, rfl⟩
   rw [hB] at imt ltw hne
   go_wp2
   go_loopw [41] (fun i wr => ∃ k : Nat, k <= l.length /\ i = .int .i64 k /\ IMap wr w.heap.size (revV r) /\ IMap wr B (txtV (txF l r k)) /\ Below w.heap.size w wr) (fun i _ => l.length - (intOf i).toNat)
   case atStart => exact ⟨0, Nat.zero_le _, rfl, im, imt, nx⟩
   case round =>
    clear im imt nx
    obtain ⟨k, hk, rfl, im, imt, nx⟩ := hrel
    by_cases hlt : k < l.length
    ·obtain ⟨b1, o1, am, cm, ad, cd, ar, cr, rfl, hrt, c0, c1, c2, c3, c4, c5, c6, c7, c8, c9⟩ := h.out.at3 hlt
     replace c0 := cell_below nx c0; replace c1 := cell_below nx c1; replace c2 := cell_below nx c2; replace c3 := cell_below nx c3; replace c4 := cell_below nx c4; replace c5 := cell_below nx c5; replace c6 := cell_below nx c6; replace c7 := cell_below nx c7; replace c8 := cell_below nx c8; replace c9 := cell_below nx c9
     have hstk := hts.out k hlt
     have hgt := hgk.out k hlt
     generalize l[k] = t at *
     obtain ⟨vm', vd', vr', hv, hm, hd, hr, n1, n2, n3⟩ := hrt
     simp only [txnV, Value.agg.injEq, Array.mk.injEq, List.cons.injEq, and_true, true_and] at hv
     obtain ⟨rfl, rfl, rfl⟩ := hv
     have hj0 : ∀ b, txtV (txF l r k) b = txtV (metaG (txF l r k) r k (t.mt.take 0)) b := fun b => rfl
     have hjs := fun j (hj : j < t.mt.length) b => metaG_step (txF l r k) r k hj b
     have hjn : ∀ b, txtV (metaG (txF l r k) r k (t.mt.take t.mt.length)) b = txtV (txF l r (k + 1)) b := fun b => by
      unfold txtV; rw [hstk b, List.take_length, metaG_good ((goodT_iff t).1 hgt).2.1]
     generalize hge : txF l r (k + 1) = g' at *
     generalize txF l r k = g at *
     replace hge := hid hge; replace hm := hid hm; replace hj0 := hid hj0; replace hjs := hid hjs; replace hjn := hid hjn
     clear hstk hgt hd hr
     go_wp2
     go_loopw [12, 49] (fun _ i wr => ∃ j : Nat, j <= t.mt.length /\ i = .int .i64 j /\ IMap wr w.heap.size (revV r) /\ IMap wr B (txtV (metaG g r k (t.mt.take j))) /\ Below w.heap.size w wr) (fun _ i _ => t.mt.length - (intOf i).toNat)
     case atStart => exact ⟨0, Nat.zero_le _, rfl, im.alloc _, (imt.congr hj0.out).alloc _, bal nx _⟩
     case round =>
      clear im imt nx c0 c1 c2 c3 c4 c5 c6 c7 c8 c9
      obtain ⟨j, hj, rfl, im, imt, nx⟩ := hrel
      by_cases hlt2 : j < t.mt.length
      ·obtain ⟨b3, o3, rfl, d0, d1⟩ := RL.at2 (fun x => .int .i64 x.block) (fun x => .string x.text) (fun _ => rfl) (hm.out.below nx) hlt2
       have hsj := hjs.out j hlt2
       generalize t.mt[j] = x at *
       replace im := im.alloc (.cells #[.int .i64 x.block, .string x.text] 63)
       replace imt := imt.alloc (.cells #[.int .i64 x.block, .string x.text] 63)
       have nx' := bal nx (.cells #[.int .i64 x.block, .string x.text] 63)
       have hl1 := hlk.out _ _ _ im x.block
       rw [revV_get] at hl1
       by_cases hrk : r x.block <= k
       ·obtain ⟨wu, hrun, imu, htu⟩ := hup2.out _ _ _ imt x.block (.string x.text)
        have hsu := hid (imu.congr (g := txtV (metaG g r k (t.mt.take (j + 1)))) (fun b => by
         unfold txtV
         rw [hsj b]
         by_cases hb : b = x.block
         ·rw [if_pos hb, if_pos ⟨hb, by rw [hb]; exact hrk⟩]; rfl
         ·rw [if_neg hb, if_neg (fun hh => hb hh.1)]))
        have imr := hid (htu.imap im hne)
        have nxu := hid (htu.below nx' (by omega))
        clear imu hsj imt im
        go_wp2
        go_roundw
        case rel => exact ⟨j + 1, by omega, by go_num, imr.out, hsu.out, nxu.out⟩
        case measure => simp [intOf]; omega
       ·have hsu := hid (imt.congr (g := txtV (metaG g r k (t.mt.take (j + 1)))) (fun b => by
          unfold txtV
          rw [hsj b]
          by_cases hb : b = x.block
          · rw [if_neg (fun hh => hrk (by rw [<- hb]; exact hh.2))]
          · rw [if_neg (fun hh => hb hh.1)]))
        have hrk2 : k < r x.block := by omega
        clear hsj
        go_wp2
        go_roundw
        case rel => exact ⟨j + 1, by omega, by go_num, im, hsu.out, nx'⟩
        case measure => simp [intOf]; omega
      ·obtain rfl : j = t.mt.length := by omega
       have im2 := hid (imt.congr hjn.out)
       go_wp2
       go_roundw
       case rel => exact ⟨k + 1, by omega, by go_num, im, by rw [hge.out]; exact im2.out, nx⟩
       case measure => simp [intOf]; omega
    ·obtain rfl : k = l.length := by omega
     replace imt := imt.congr (g := txtV (newestB l)) (fun b => by unfold txtV; rw [hfin.out b])
     clear im hr2 hts hrr hup hup2 hlk hrs hgk hrl hr0 ht0 hfin
     generalize hnb : newestB l = nb at *
     replace hnb := hid hnb
     go_wp2
     go_loopw [13, 66] (fun o i wr => ∃ k : Nat, k <= 12 /\ i = .int .i64 k /\ Wb.Own cpyC w.heap.size 63 2 wr o (viewN nb k) /\ IMap wr B (txtV nb) /\ Below w.heap.size w wr) (fun _ i _ => 12 - (intOf i).toNat)
     case atStart => exact ⟨0, by decide, rfl, by rw [hv0.out]; exact Own.nil _ _ _ _ _, imt, nx⟩
     case round =>
      clear imt nx
      obtain ⟨k, hk, rfl, hown, imt, nx⟩ := hrel
      by_cases hlt : k < 12
      ·have hl2 := hlk2.out _ _ _ imt (k : Int)
       rw [txtV_get, txtV_some] at hl2
       have hs := hvs.out k
       have hn := hvn.out k
       generalize hvk : viewN nb (k + 1) = v1 at *
       generalize viewN nb k = v0 at *
       generalize nb (k : Int) = o at *
       replace hvk := hid hvk
       cases o with
       | none =>
        simp only [Option.map_none, Option.toList_none, List.append_nil] at hs
        simp only [Option.getD_none, Option.isSome_none] at hl2
        replace hs := hid hs
        go_wp2
        go_roundw
        case rel => exact ⟨k + 1, by omega, by go_num, by rw [hvk.out, hs.out]; exact hown, imt, nx⟩
        case measure => simp [intOf]; omega
       | some s =>
        simp only [Option.map_some, Option.toList_some] at hs
        simp only [Option.getD_some, Option.isSome_some] at hl2
        replace hs := hid hs
        have hne2 := imt.own_ne hown
        go_wp2_with (at_builtin; (refine wpList_push rfl _ _ _ rfl w.heap.size _ 2 24 cpyC_flat elemCpy hown rfl ⟨(k : Int), s⟩ rfl rfl (by omega) (by unfold maxLen; omega) nx.size ?_); intro v7 w7 hown7 hbel7 hg7)
        have imt7 := hid (imt.grown hg7 hne2)
        rw [<- hs.out] at hown7
        go_wp2
        go_roundw
        case rel => exact ⟨k + 1, by omega, by go_num, by rw [hvk.out]; exact hown7, imt7.out, nx.trans hbel7⟩
        case measure => simp [intOf]; omega
      ·obtain rfl : k = 12 := by omega
       go_wp2
       go_ret
       exact ⟨_, rfl, by rw [hnb.out]; exact hown, nx⟩
end Go.Proofs.YtjhmfljlclajnadGreatDoor
namespace Wb
open Go Go.RowKit
theorem gB {w w' : World} (h : Below w.heap.size w w') (row : Option Nat) : w.grownBy w' row := ⟨h.os, h.tape, h.output, h.size, fun k hk _ => h.block k hk⟩
theorem gSet {w w' : World} {b : Nat} (h : w.grownBy w' (some b)) (i : Nat) (v : Value) : w.grownBy (w'.setCell ⟨b, i, none⟩ v) (some b) :=
 ⟨h.os, h.tape, h.output, by simpa using h.size, fun k hk hne => by rw [Below.heap_setCell w' ⟨b, i, none⟩ v k (fun hh => hne (by rw [hh]))]; exact h.block k hk hne⟩
theorem gBelow {B b : Nat} {W w w' : World} (h : w.grownBy w' (some b)) (hw : Below B W w) (hs : B <= w.heap.size) (hb : B <= b) : Below B W w' :=
 hw.grown h hs (fun k hk => by cases hk; exact hb)
theorem gTrans {w w1 w2 : World} {row : Option Nat} (h : w.grownBy w1 row) (h2 : w1.grownBy w2 row) : w.grownBy w2 row :=
 ⟨h2.os.trans h.os, h2.tape.trans h.tape, h2.output.trans h.output, Nat.le_trans h.size h2.size, fun k hk hne => (h2.block k (Nat.lt_of_lt_of_le hk h.size) hne).trans (h.block k hk hne)⟩
end Wb
namespace Go.Proofs.YtjhmfljlclajnadGreatDoor
open Go.RowKit Wb
theorem scan_next0 (br : Nat) (vs vw : Value) (a : Int) (w : World) (k : Blk w br #[vs, vw, .int .i64 a, .int .i64 0] 150) :
    Calls Tryz.prog 105 #[.pointer (some ⟨br, 0, none⟩)] w fun e w' => e = .returned (.tuple #[.string ⟨#[]⟩, .bool false]) /\ w = w' := by
 have c3 := k.cell 3
 simp only [Zga, Zgb, Zgc] at c3
 go_enter Tryz.func105, Tryz.ntmps105
 go_wp2
 go_ret2
 exact ⟨rfl, rfl⟩
theorem scan_next1 (d : Dsk) (br : Nat) (vs vw : Value) (a lf : Int) (w : World) (hd : RDisk w (.agg #[vs, vw]) d) (k : Blk w br #[vs, vw, .int .i64 a, .int .i64 lf] 150)
    (a0 : 0 <= a) (a1 : a < 24) (l0 : 0 < lf) (l1 : lf <= 24) :
    Calls Tryz.prog 105 #[.pointer (some ⟨br, 0, none⟩)] w fun e w' => e = .returned (.tuple #[.string (readD d (1 + a)), .bool true]) /\ Blk w' br #[vs, vw, .int .i64 ((a + 1) % 24), .int .i64 (lf - 1)] 150 /\ w.grownBy w' (some br) := by
 have hR := fun w (hh : RDisk w (.agg #[vs, vw]) d) => disk_Read d (1 + a) _ w hh
 have c0 := k.cell 0; have c1 := k.cell 1; have c2 := k.cell 2; have c3 := k.cell 3
 simp only [Zga, Zgb, Zgc] at c0 c1 c2 c3
 have hlf : (lf == 0) = false := beq_eq_false_iff_ne.2 (by omega)
 have lt := k.lt
 obtain ⟨vs', vw', hv, hs, hw, n1, n2⟩ := hd
 have hd : RDisk w (.agg #[vs, vw]) d := ⟨vs', vw', hv, hs, hw, n1, n2⟩
 simp only [Value.agg.injEq, Array.mk.injEq, List.cons.injEq, and_true] at hv
 obtain ⟨rfl, rfl⟩ := hv
 obtain ⟨as_, cs, rfl, _⟩ := hs.form
 obtain ⟨aw, cw, rfl, _⟩ := hw.form
 clear hs hw
 generalize readD d (1 + a) = s at *
 generalize readE d (1 + a) = e at *
 have ha : IntKind.i64.wrap (1 + a) = 1 + a := IntWalk.i64_in _ (by omega)
 replace hR := hid hR; replace hd := hid hd
 go_enter Tryz.func105, Tryz.ntmps105
 go_wp2
 (refine wp_region_below (by kernel_rfl) (by kernel_rfl) ?_); (repeat (go_big_quiet_step ((first | (go_at_call 23; exact BW.call (hR.out _ (hd.out.below (BW.below _)))))) )); refine wpQuiet_nil ?_; intro wq hw'; obtain ⟨⟨_, hb1⟩, rfl⟩ := hw'
 have k' := k.step hb1
 have c2' := k'.cell 2; have c3' := k'.cell 3
 have f2 := k'.free 2; have f3 := k'.free 3
 have lt' := k'.lt
 simp only [Zga, Zgb, Zgc] at c2' c3'
 have g := gSet (gSet (gB hb1 (some br)) 2 (.int .i64 ((a + 1) % 24))) 3 (.int .i64 (lf - 1))
 have k2 := (k'.set 2 (.int .i64 ((a + 1) % 24))).set 3 (.int .i64 (lf - 1))
 replace g := hid g; replace k2 := hid k2
 clear c0 c1 c2 c3 k
 go_wp2
 go_ret2
 exact ⟨rfl, k2.out, g.out⟩
end Go.Proofs.YtjhmfljlclajnadGreatDoor
namespace Wb
open Go Go.RowKit
def rdrC (vs vw : Value) (A : Int) (n : Nat) : Array Value := #[vs, vw, .int .i64 ((A + (24 - (n : Int))) % 24), .int .i64 (n : Int)]
theorem Own.grownBlk {α : Type} {f : α -> List Value} {base : Nat} {e : TypeId} {c : Nat} {w w' : World} {v : Value} {l : List α} (h : Own f base e c w v l) {b : Nat} {cs : Array Value} {t : TypeId} (hb : Blk w b cs t) (hne : e ≠ t) (hg : w.grownBy w' (some b)) : Own f base e c w' v l := by
 refine h.grown hg ?_
 cases hv : v.ownBlock with
 | none => exact .inl rfl
 | some g =>
  refine .inr fun hh => ?_
  obtain ⟨c1, h1⟩ := h.cellsOf hv
  cases hh
  unfold Blk at hb
  rw [h1] at hb
  simp only [Option.some.injEq, Obj.cells.injEq] at hb
  exact hne hb.2.1
end Wb
namespace Go.Proofs.YtjhmfljlclajnadGreatDoor
open Go.RowKit Wb
theorem next_nil (br : Nat) (vs vw : Value) (A : Int) (w : World) (k : Blk w br (rdrC vs vw A 0) 150) :
    Calls Tryz.prog 105 #[.pointer (some ⟨br, 0, none⟩)] w fun e w' => e = .returned (.tuple #[.string ⟨#[]⟩, .bool false]) /\ w = w' := scan_next0 br vs vw _ w k
theorem next_cons (d : Dsk) (br : Nat) (vs vw : Value) (A : Int) (s : ByteArray) (r : List ByteArray) (w : World) (hd : RDisk w (.agg #[vs, vw]) d) (k : Blk w br (rdrC vs vw A (r.length + 1)) 150) (hs : sfx d A (s :: r)) :
    Calls Tryz.prog 105 #[.pointer (some ⟨br, 0, none⟩)] w fun e w' => e = .returned (.tuple #[.string s, .bool true]) /\ Blk w' br (rdrC vs vw A r.length) 150 /\ w.grownBy w' (some br) := by
 obtain ⟨h1, h2, h3⟩ := sfx_cons hs
 have := scan_next1 d br vs vw ((A + (24 - ((r.length + 1 : Nat) : Int))) % 24) ((r.length + 1 : Nat) : Int) w hd k (Int.emod_nonneg _ (by decide)) (Int.emod_lt_of_pos _ (by decide)) (by omega) (by omega)
 rw [h2] at this
 have e1 : ((A + (24 - ((r.length + 1 : Nat) : Int))) % 24 + 1) % 24 = (A + (24 - (r.length : Int))) % 24 := by omega
 have e2 : ((r.length + 1 : Nat) : Int) - 1 = (r.length : Int) := by omega
 rw [e1, e2] at this
 exact this
end Go.Proofs.YtjhmfljlclajnadGreatDoor
namespace Wb
open Go Go.RowKit
def OFnd (base : Nat) (tt tc ti : TypeId) (w : World) (v : Value) (F : Fnd) : Prop := ∃ vt, v = .agg #[vt, .int .i64 F.next, .int .i64 F.at_] /\ OTxns base tt tc ti w vt F.txns
theorem OTxn.grownBlk {base : Nat} {tc ti : TypeId} {w w' : World} {v : Value} {t : Txn} (h : OTxn base tc ti w v t) {b : Nat} {cs : Array Value} {e : TypeId} (hb : Blk w b cs e) (hc : tc ≠ e) (hi : ti ≠ e) (hg : w.grownBy w' (some b)) : OTxn base tc ti w' v t := by
 obtain ⟨vm, vd, vr, hv, h1, h2', h3, h4⟩ := h
 exact ⟨vm, vd, vr, hv, h1.grownBlk hb hc hg, h2'.grownBlk hb hc hg, h3.grownBlk hb hi hg, h4⟩
theorem OTxn.setCell {base : Nat} {tc ti : TypeId} {w : World} {v : Value} {t : Txn} (h : OTxn base tc ti w v t) {p : Addr} (hp : p.block < base) (u : Value) : OTxn base tc ti (w.setCell p u) v t := by
 obtain ⟨vm, vd, vr, hv, h1, h2', h3, h4⟩ := h
 exact ⟨vm, vd, vr, hv, h1.setCell hp u, h2'.setCell hp u, h3.setCell hp u, h4⟩
theorem OTxns.grownBlk {base : Nat} {tt tc ti : TypeId} {w w' : World} {v : Value} {l : List Txn} (h : OTxns base tt tc ti w v l) {b : Nat} {cs : Array Value} {e : TypeId} (hb : Blk w b cs e) (ht : tt ≠ e) (hc : tc ≠ e) (hi : ti ≠ e) (hg : w.grownBy w' (some b)) : OTxns base tt tc ti w' v l := by
 obtain ⟨xs, h1, h2, h3⟩ := h
 exact ⟨xs, h1.grownBlk hb ht hg, h2, fun x hx => (h3 x hx).grownBlk hb hc hi hg⟩
theorem OTxns.setCell {base : Nat} {tt tc ti : TypeId} {w : World} {v : Value} {l : List Txn} (h : OTxns base tt tc ti w v l) {p : Addr} (hp : p.block < base) (u : Value) : OTxns base tt tc ti (w.setCell p u) v l := by
 obtain ⟨xs, h1, h2, h3⟩ := h
 exact ⟨xs, h1.setCell hp u, h2, fun x hx => (h3 x hx).setCell hp u⟩
theorem RL.drop {α : Type} {f : α -> List Value} {c : Nat} (hf : ∀ x, (f x).length = c) {w : World} {b off n cap : Nat} {l : List α} (h : RL f w (.slice (some ⟨b, off, none⟩) n cap) l) {k : Nat} (hk : k <= l.length) :
    RL f w (.slice (some ⟨b, off + k * c, none⟩) (n - k) (cap - k)) (l.drop k) := by
 obtain ⟨a, cap', hv, h1, h2, h3⟩ := h
 simp only [Value.slice.injEq] at hv
 obtain ⟨rfl, rfl, rfl⟩ := hv
 refine ⟨some ⟨b, off + k * c, none⟩, cap - k, by rw [List.length_drop], by rw [List.length_drop]; omega, by omega, ?_⟩
 rcases h3 with h3 | ⟨b', off', ha, hc⟩
 ·left
  cases hl : l.drop k with
  | nil => rfl
  | cons x r =>
   have : l.flatMap f = (l.take k).flatMap f ++ (l.drop k).flatMap f := by rw [<- List.flatMap_append, List.take_append_drop]
   rw [h3, hl] at this
   simp only [List.nil_eq, List.append_eq_nil_iff] at this
   exact this.2
 ·right
  simp only [Option.some.injEq, Addr.mk.injEq, and_true] at ha
  obtain ⟨rfl, rfl⟩ := ha
  refine ⟨b, off + k * c, rfl, fun j u hj => ?_⟩
  have : l.flatMap f = (l.take k).flatMap f ++ (l.drop k).flatMap f := by rw [<- List.flatMap_append, List.take_append_drop]
  have hl := flat_len hf (l.take k)
  rw [List.length_take, Nat.min_eq_left hk] at hl
  have h5 := hc (k * c + j) u (by rw [this, List.getElem?_append_right (by omega), hl, Nat.add_sub_cancel_left]; exact hj)
  rw [<- Nat.add_assoc] at h5
  exact h5
end Wb
namespace Go.Proofs.YtjhmfljlclajnadGreatDoor
open Go.RowKit Wb
theorem stamp_Decode_ok (s : ByteArray) (w : World) (hs : okS s) :
    Calls Tryz.prog 74 #[.string s] w fun e w' => ∃ v, e = .returned (.tuple #[v, .int .i64 (decE s)]) /\ OMark w.heap.size w' v (decM s) /\ Below w.heap.size w w' := by
 by_cases k1 : nb s 4 = 1
 ·exact stamp_Decode_1 s w hs k1
 by_cases k2 : nb s 4 = 2
 ·exact stamp_Decode_2 s w hs k2
 by_cases k3 : nb s 4 = 3
 ·exact stamp_Decode_3 s w hs k3
 exact stamp_Decode_4 s w hs ⟨k1, k2, k3⟩
theorem stamp_Decode_no (s : ByteArray) (w : World) (hs : ¬ okS s) (hz : s.size <= 9223372036854775807) :
    Calls Tryz.prog 74 #[.string s] w fun e w' => ∃ v, e = .returned (.tuple #[v, .int .i64 (decE s)]) /\ OMark w.heap.size w' v (decM s) /\ Below w.heap.size w w' := by
 have hd : ¬ decOk s := fun h => hs h.1
 obtain ⟨dM, dE⟩ := dec_no hd
 rw [dM, dE]
 have hP := hid (fun w' => OMark.plain w.heap.size w' 0 0 0)
 by_cases h1 : s.size = 32
 ·have e1 : ((s.size : Int) != 32) = false := by rw [h1]; rfl
  have h2 : isEsc s = false := decide_eq_false fun hh => hs ⟨h1, hh⟩
  have e2 := take_isEsc s
  rw [h2] at e2
  have h4 : 4 <= s.size := by omega
  clear hs hd dM dE h2 h1
  go_enter Tryz.func74, Tryz.ntmps74
  go_wp2
  refine bodyPost_ret (v := .tuple #[.agg #[.int .i64 0, .int .i64 0, .int .i64 0, .slice none 0 0, .slice none 0 0], .int .i64 1]) (by simp [results, Tryz.results74, go_sem]) rfl ⟨_, rfl, hP.out _, ?_⟩
  exact bal (b0 w) _
 ·have e1 : ((s.size : Int) != 32) = true := bne_iff_ne.2 (by omega)
  clear hs hd dM dE h1
  go_enter Tryz.func74, Tryz.ntmps74
  go_wp2
  refine bodyPost_ret (v := .tuple #[.agg #[.int .i64 0, .int .i64 0, .int .i64 0, .slice none 0 0, .slice none 0 0], .int .i64 1]) (by simp [results, Tryz.results74, go_sem]) rfl ⟨_, rfl, hP.out _, ?_⟩
  exact bal (b0 w) _
theorem stamp_DecodeO (s : ByteArray) (w : World) (hz : s.size <= 9223372036854775807) :
    Calls Tryz.prog 74 #[.string s] w fun e w' => ∃ v, e = .returned (.tuple #[v, .int .i64 (decE s)]) /\ OMark w.heap.size w' v (decM s) /\ Below w.heap.size w w' := by
 by_cases h : okS s
 ·exact stamp_Decode_ok s w h
 ·exact stamp_Decode_no s w h hz
end Go.Proofs.YtjhmfljlclajnadGreatDoor
namespace Wb
open Go Go.RowKit
theorem Own.blk_ne {α : Type} {f : α -> List Value} {base : Nat} {e : TypeId} {c : Nat} {w : World} {v : Value} {l : List α} (h : Own f base e c w v l) {b : Nat} {cs : Array Value} {t : TypeId} (hb : Blk w b cs t) (hne : e ≠ t) : some b ≠ v.ownBlock := by
 intro hh
 obtain ⟨cur, hc⟩ := h.cellsOf hh.symm
 unfold Blk at hb
 rw [hc] at hb
 simp only [Option.some.injEq, Obj.cells.injEq] at hb
 exact hne hb.2.1
theorem gNew {α : Type} {f : α -> List Value} {base : Nat} {e : TypeId} {c : Nat} {w w1 w2 : World} {row : Option Nat} {v : Value} {l : List α} (h : w.grownBy w1 row) (h2 : w1.grownBy w2 v.ownBlock) (ho : Own f base e c w1 v l) (hb : w.heap.size <= base) : w.grownBy w2 row :=
 ⟨h2.os.trans h.os, h2.tape.trans h.tape, h2.output.trans h.output, Nat.le_trans h.size h2.size, fun k hk hne => (h2.block k (Nat.lt_of_lt_of_le hk h.size) (fun hh => by have := (World.ownsRow.lt ho k hh.symm).1; omega)).trans (h.block k hk hne)⟩
theorem gAlloc {w w1 : World} {row : Option Nat} (h : w.grownBy w1 row) (o : Obj) : w.grownBy (w1.alloc o) row := gTrans h (World.grownBy_alloc w1 o row)
theorem gSets {w : World} {row : Option Nat} : ∀ (ps : List (Addr × Value)) (w' : World), w.grownBy w' row -> (∀ p ∈ ps, w.heap.size <= p.1.block) -> w.grownBy (ps.foldl (fun w p => w.setCell p.1 p.2) w') row
 | [], _, h, _ => h
 | p :: ps, w', h, hp => gSets ps _ (⟨h.os, h.tape, h.output, by simpa using h.size, fun k hk hne => by rw [Below.heap_setCell w' p.1 p.2 k (fun hh => by have := hp p (by simp); omega)]; exact h.block k hk hne⟩) (fun q hq => hp q (by simp [hq]))
theorem Blk.setCells {b : Nat} {cs : Array Value} {t : TypeId} : ∀ (ps : List (Addr × Value)) (w : World), Blk w b cs t -> (∀ p ∈ ps, b ≠ p.1.block) -> Blk (ps.foldl (fun w p => w.setCell p.1 p.2) w) b cs t
 | [], _, h, _ => h
 | p :: ps, _, h, hp => Blk.setCells ps _ (h.set_other p.1 p.2 (hp p (by simp))) (fun q hq => hp q (by simp [hq]))
theorem gDrew {w w1 : World} {row : Option Nat} (h : w.grownBy w1 row) : w.grownBy w1.drew row := ⟨h.os, h.tape, h.output, h.size, h.block⟩
theorem gBnew {w w1 w2 : World} {row : Option Nat} (h : w.grownBy w1 row) (h2 : Below w1.heap.size w1 w2) : w.grownBy w2 row := gTrans h (gB h2 row)
theorem parse_cons (seq : Int) (n : Nat) (s : ByteArray) (r : List ByteArray) (t : Txn) : parseT seq (n + 1) (s :: r) t =
    if decE s = 0 /\ (decM s).seq = seq then
      if (decM s).kind = 4 then some (t, r)
      else if (decM s).kind = 3 then parseT seq n r { t with rev := t.rev ++ (decM s).blocks }
      else if (decM s).kind = 2 then
        match takeTags (decM s).tags r t.mt with
        | some (mt, r') => parseT seq n r' { t with mt := mt }
        | none => none
      else none
    else none := rfl
end Wb
namespace Go.Proofs.YtjhmfljlclajnadGreatDoor
open Go.RowKit Wb
def DecodeSaid : Prop := ∀ (s : ByteArray) (w : World), s.size <= 9223372036854775807 -> Calls Tryz.prog 74 #[.string s] w fun e w' => ∃ v, e = .returned (.tuple #[v, .int .i64 (decE s)]) /\ OMark w.heap.size w' v (decM s) /\ Below w.heap.size w w'
def OneP (seq : Int) (r0 : List ByteArray) (br : Nat) (vs vw : Value) (A : Int) (w : World) (e : Ending) (w' : World) : Prop :=
 (∃ t r', parseT seq 25 r0 (txn0 seq) = some (t, r') /\ ∃ v, e = .returned (.tuple #[v, .bool true]) /\ OTxn w.heap.size 63 3 w' v t /\ Blk w' br (rdrC vs vw A r'.length) 150 /\ w.grownBy w' (some br)) \/
 (parseT seq 25 r0 (txn0 seq) = none /\ e = .returned (.tuple #[.agg #[.int .i64 0, .slice none 0 0, .slice none 0 0, .slice none 0 0, .bool false, .int .i64 0, .bool false, .int .i64 0, .bool false, .int .i64 0], .bool false]) /\ ∃ n, Blk w' br (rdrC vs vw A n) 150 /\ w.grownBy w' (some br))
theorem scan_one (hDec : DecodeSaid) (d : Dsk) (W : World) (br : Nat) (vs vw : Value) (A seq : Int) (r0 : List ByteArray) (w : World) (hW : Below W.heap.size W w) (hd : RDisk W (.agg #[vs, vw]) d) (hbr : W.heap.size <= br) (hs0 : sfx d A r0) (hsz : ∀ s ∈ r0, s.size <= 9223372036854775807)
    (kb : Blk w br (rdrC vs vw A r0.length) 150) :
    Calls Tryz.prog 75 #[.pointer (some ⟨br, 0, none⟩), .int .i64 seq] w fun e w' => OneP seq r0 br vs vw A w e w' := by
 have hN0 := fun w k => next_nil br vs vw A w k
 have hN1 := fun s r w hd k hs => next_cons d br vs vw A s r w hd k hs
 have hU := fun s e w hs => stamp_Unescape s e w hs
 have hbw := kb.lt
 have hwW := hW.size
 have hr24 := hs0.2
 have hp0 := hid (parseT_fuel (seq := seq) (n := r0.length + 1) (m := 25) (r := r0) (t := txn0 seq) (by omega) (by omega))
 replace hN0 := hid hN0; replace hN1 := hid hN1; replace hU := hid hU; replace hd := hid hd; replace hsz := hid hsz; replace hs0 := hid hs0; replace hDec := hid hDec
 have k40 : Blk ((w.alloc (.cells #[.int .i64 0, .slice none 0 0, .slice none 0 0, .slice none 0 0, .bool false, .int .i64 0, .bool false, .int .i64 0, .bool false, .int .i64 0] 43)).alloc (.cells #[.int .i64 seq, .slice none 0 0, .slice none 0 0, .slice none 0 0, .bool false, .int .i64 0, .bool false, .int .i64 0, .bool false, .int .i64 0] 43)) w.heap.size #[.int .i64 0, .slice none 0 0, .slice none 0 0, .slice none 0 0, .bool false, .int .i64 0, .bool false, .int .i64 0, .bool false, .int .i64 0] 43 := (Blk.new w _ _).alloc _
 have k60 : Blk ((w.alloc (.cells #[.int .i64 0, .slice none 0 0, .slice none 0 0, .slice none 0 0, .bool false, .int .i64 0, .bool false, .int .i64 0, .bool false, .int .i64 0] 43)).alloc (.cells #[.int .i64 seq, .slice none 0 0, .slice none 0 0, .slice none 0 0, .bool false, .int .i64 0, .bool false, .int .i64 0, .bool false, .int .i64 0] 43)) (w.heap.size + 1) #[.int .i64 seq, .slice none 0 0, .slice none 0 0, .slice none 0 0, .bool false, .int .i64 0, .bool false, .int .i64 0, .bool false, .int .i64 0] 43 := Blk.newAt (by simp)
 have kb0 := (kb.alloc (.cells #[.int .i64 0, .slice none 0 0, .slice none 0 0, .slice none 0 0, .bool false, .int .i64 0, .bool false, .int .i64 0, .bool false, .int .i64 0] 43)).alloc (.cells #[.int .i64 seq, .slice none 0 0, .slice none 0 0, .slice none 0 0, .bool false, .int .i64 0, .bool false, .int .i64 0, .bool false, .int .i64 0] 43)
 have g0 : w.grownBy ((w.alloc (.cells #[.int .i64 0, .slice none 0 0, .slice none 0 0, .slice none 0 0, .bool false, .int .i64 0, .bool false, .int .i64 0, .bool false, .int .i64 0] 43)).alloc (.cells #[.int .i64 seq, .slice none 0 0, .slice none 0 0, .slice none 0 0, .bool false, .int .i64 0, .bool false, .int .i64 0, .bool false, .int .i64 0] 43)) (some br) := gB (bal (bal (b0 w) _) _) _
 have s0 : w.heap.size + 2 <= ((w.alloc (.cells #[.int .i64 0, .slice none 0 0, .slice none 0 0, .slice none 0 0, .bool false, .int .i64 0, .bool false, .int .i64 0, .bool false, .int .i64 0] 43)).alloc (.cells #[.int .i64 seq, .slice none 0 0, .slice none 0 0, .slice none 0 0, .bool false, .int .i64 0, .bool false, .int .i64 0, .bool false, .int .i64 0] 43)).heap.size := by simp
 go_enter Tryz.func75, Tryz.ntmps75
 go_wp2
 go_loopg [7] r0.length (fun g _ wr => ∃ (r : List ByteArray) (mt : List Cpy) (rev : List Int), g = r.length /\ Hid (sfx d A r) /\ Hid (∀ s ∈ r, s.size <= 9223372036854775807) /\ Hid (parseT seq (r.length + 1) r ⟨seq, mt, [], rev, hnd0, hnd0, hnd0⟩ = parseT seq 25 r0 (txn0 seq)) /\ ∃ vm vr, Wb.Own cpyC (w.heap.size + 2) 63 2 wr vm mt /\ Wb.Own intC (w.heap.size + 2) 3 1 wr vr rev /\ Blk wr w.heap.size #[.int .i64 0, .slice none 0 0, .slice none 0 0, .slice none 0 0, .bool false, .int .i64 0, .bool false, .int .i64 0, .bool false, .int .i64 0] 43 /\ Blk wr (w.heap.size + 1) #[.int .i64 seq, vm, .slice none 0 0, vr, .bool false, .int .i64 0, .bool false, .int .i64 0, .bool false, .int .i64 0] 43 /\ Blk wr br (rdrC vs vw A r.length) 150 /\ w.grownBy wr (some br) /\ w.heap.size + 2 <= wr.heap.size /\ rev.length + 20 * r.length <= 480 /\ mt.length + r.length <= 24)
 case atStart => exact ⟨r0, [], [], rfl, hs0, hsz, hp0, _, _, Own.nil _ _ _ _ _, Own.nil _ _ _ _ _, k40, k60, kb0, g0, s0, by simp; omega, by simp; omega⟩
 case round =>
  clear k40 k60 kb0 g0 hp0 hs0 hsz s0
  obtain ⟨r, mt, rev, rfl, hs, hsz, hp, vm, vr, om, or_, k4, k6, kb, g, hg2, hb1, hb2⟩ := hrel
  obtain ⟨am, cm, rfl⟩ := om.form
  obtain ⟨ar, cr, rfl⟩ := or_.form
  have lt4 := k4.lt
  have lt6 := k6.lt
  have nx := gBelow g hW hwW hbr
  cases r with
  | nil =>
   have hno := hid (hp.out.symm.trans rfl : parseT seq 25 r0 (txn0 seq) = none)
   clear hp hs hsz
   have z0 := k4.cell 0; have z1 := k4.cell 1; have z2 := k4.cell 2; have z3 := k4.cell 3; have z4 := k4.cell 4; have z5 := k4.cell 5; have z6 := k4.cell 6; have z7 := k4.cell 7; have z8 := k4.cell 8; have z9 := k4.cell 9
   have f0 := k4.free 0; have f1 := k4.free 1; have f2 := k4.free 2; have f3 := k4.free 3; have f4 := k4.free 4; have f5 := k4.free 5; have f6 := k4.free 6; have f7 := k4.free 7; have f8 := k4.free 8; have f9 := k4.free 9
   simp only [Zga, Zgb, Zgc] at z0 z1 z2 z3 z4 z5 z6 z7 z8 z9
   go_wp2_with (go_at_call 105; ((with_reducible refine (hN0.out _ kb).mono ?_); rintro e w1 ⟨rfl, rfl⟩))
   have kz := (Blk.setCells [(⟨w.heap.size, 0, none⟩, .int .i64 0), (⟨w.heap.size, 1, none⟩, .slice none 0 0), (⟨w.heap.size, 2, none⟩, .slice none 0 0), (⟨w.heap.size, 3, none⟩, .slice none 0 0), (⟨w.heap.size, 4, none⟩, .bool false), (⟨w.heap.size, 5, none⟩, .int .i64 0), (⟨w.heap.size, 6, none⟩, .bool false), (⟨w.heap.size, 7, none⟩, .int .i64 0), (⟨w.heap.size, 8, none⟩, .bool false), (⟨w.heap.size, 9, none⟩, .int .i64 0)] _ kb (by simp; omega))
   have gz := gSets [(⟨w.heap.size, 0, none⟩, .int .i64 0), (⟨w.heap.size, 1, none⟩, .slice none 0 0), (⟨w.heap.size, 2, none⟩, .slice none 0 0), (⟨w.heap.size, 3, none⟩, .slice none 0 0), (⟨w.heap.size, 4, none⟩, .bool false), (⟨w.heap.size, 5, none⟩, .int .i64 0), (⟨w.heap.size, 6, none⟩, .bool false), (⟨w.heap.size, 7, none⟩, .int .i64 0), (⟨w.heap.size, 8, none⟩, .bool false), (⟨w.heap.size, 9, none⟩, .int .i64 0)] _ g (by simp)
   exact bodyPost_ret (v := .tuple #[.agg #[.int .i64 0, .slice none 0 0, .slice none 0 0, .slice none 0 0, .bool false, .int .i64 0, .bool false, .int .i64 0, .bool false, .int .i64 0], .bool false]) (by simp [results, Tryz.results75, go_sem, z0, z1, z2, z3, z4, z5, z6, z7, z8, z9]) rfl (.inr ⟨hno.out, rfl, _, kz, gz⟩)
  | cons s r =>
   have hDs := hDec.out s
   have hbd := fun h => dec_bds (s := s) h
   have hp1 := hp.out
   simp only [List.length_cons] at hp1 hb1 hb2 kb
   rw [parse_cons] at hp1
   have hsz1 := hsz.out s (by simp)
   have hsz2 := hid (fun x (hx : x ∈ r) => hsz.out x (by simp [hx]))
   have hs2 := hid (sfx_cons hs.out).1
   have hr24' := (sfx_cons hs.out).2.2
   generalize decM s = M at *
   generalize decE s = de at *
   obtain ⟨mk, ms, ma, tags, blocks⟩ := M
   dsimp only at hDs hbd hp1
   replace hDs := hid hDs
   by_cases hc : de = 0 /\ ms = seq
   rotate_left
   ·rw [if_neg hc] at hp1
    have hno := hid hp1.symm
    clear hp1 hp hbd hsz hsz2
    by_cases hde : de = 0
    ·have hms : (ms != seq) = true := bne_iff_ne.2 (fun h => hc ⟨hde, h⟩)
     have hde2 : (de != 0) = false := by rw [hde]; rfl
     clear hc hde
     go_wp2_with ((go_at_call 105; ((with_reducible refine (hN1.out s r _ (hd.out.below nx) kb hs.out).mono ?_); rintro e w1 ⟨rfl, kb1, gn⟩; replace om := om.grownBlk kb (by decide) gn; replace or_ := or_.grownBlk kb (by decide) gn; replace k4 := k4.grown gn (by simp; omega); replace k6 := k6.grown gn (by simp; omega); replace kb := kb1; replace g := gTrans g gn; replace nx := gBelow g hW hwW hbr; have lt4 := k4.lt; have lt6 := k6.lt)))
     go_wp2_with ((go_at_call 74; ((with_reducible refine (hDs.out _ hsz1).mono ?_); rintro e w2 ⟨v2, rfl, hmk, hb⟩; obtain ⟨vt, vb, rfl, ot, ob, t1, t2⟩ := hmk; dsimp only at ot ob t1 t2 ⊢; obtain ⟨at_, ct, rfl⟩ := ot.form; obtain ⟨ab, cb, rfl⟩ := ob.form; replace om := om.below hb; replace or_ := or_.below hb; replace k4 := k4.step hb; replace k6 := k6.step hb; replace kb := kb.step hb; replace g := gBnew g hb; replace nx := nx.trans (hb.mono nx.size); have lt4 := k4.lt; have lt6 := k6.lt; (try clear z0 z1 z2 z3 z4 z5 z6 z7 z8 z9); (try clear f0 f1 f2 f3 f4 f5 f6 f7 f8 f9); have z0 := k4.cell 0; have z1 := k4.cell 1; have z2 := k4.cell 2; have z3 := k4.cell 3; have z4 := k4.cell 4; have z5 := k4.cell 5; have z6 := k4.cell 6; have z7 := k4.cell 7; have z8 := k4.cell 8; have z9 := k4.cell 9; have f0 := k4.free 0; have f1 := k4.free 1; have f2 := k4.free 2; have f3 := k4.free 3; have f4 := k4.free 4; have f5 := k4.free 5; have f6 := k4.free 6; have f7 := k4.free 7; have f8 := k4.free 8; have f9 := k4.free 9; simp only [Zga, Zgb, Zgc] at z0 z1 z2 z3 z4 z5 z6 z7 z8 z9; have kb2 := hid kb; have g2 := hid g; have om2 := hid om; have or2 := hid or_; have lt42 := k4.lt; have km := Blk.new w2 #[.int .i64 mk, .int .i64 ms, .int .i64 ma, .slice at_ tags.length ct, .slice ab blocks.length cb] 88; have lg2 := g.size; replace ot := ot.alloc (.cells #[.int .i64 mk, .int .i64 ms, .int .i64 ma, .slice at_ tags.length ct, .slice ab blocks.length cb] 88); replace ob := ob.alloc (.cells #[.int .i64 mk, .int .i64 ms, .int .i64 ma, .slice at_ tags.length ct, .slice ab blocks.length cb] 88); have lw12 := hb.size; replace om := om.alloc (.cells #[.int .i64 mk, .int .i64 ms, .int .i64 ma, .slice at_ tags.length ct, .slice ab blocks.length cb] 88); replace or_ := or_.alloc (.cells #[.int .i64 mk, .int .i64 ms, .int .i64 ma, .slice at_ tags.length ct, .slice ab blocks.length cb] 88); replace k4 := k4.alloc (.cells #[.int .i64 mk, .int .i64 ms, .int .i64 ma, .slice at_ tags.length ct, .slice ab blocks.length cb] 88); replace k6 := k6.alloc (.cells #[.int .i64 mk, .int .i64 ms, .int .i64 ma, .slice at_ tags.length ct, .slice ab blocks.length cb] 88); replace kb := kb.alloc (.cells #[.int .i64 mk, .int .i64 ms, .int .i64 ma, .slice at_ tags.length ct, .slice ab blocks.length cb] 88); replace g := gAlloc g (.cells #[.int .i64 mk, .int .i64 ms, .int .i64 ma, .slice at_ tags.length ct, .slice ab blocks.length cb] 88); replace nx := bal nx (.cells #[.int .i64 mk, .int .i64 ms, .int .i64 ma, .slice at_ tags.length ct, .slice ab blocks.length cb] 88); have lt4 := k4.lt; have lt6 := k6.lt)))
     have kz := (Blk.setCells [(⟨w.heap.size, 0, none⟩, .int .i64 0), (⟨w.heap.size, 1, none⟩, .slice none 0 0), (⟨w.heap.size, 2, none⟩, .slice none 0 0), (⟨w.heap.size, 3, none⟩, .slice none 0 0), (⟨w.heap.size, 4, none⟩, .bool false), (⟨w.heap.size, 5, none⟩, .int .i64 0), (⟨w.heap.size, 6, none⟩, .bool false), (⟨w.heap.size, 7, none⟩, .int .i64 0), (⟨w.heap.size, 8, none⟩, .bool false), (⟨w.heap.size, 9, none⟩, .int .i64 0)] _ kb2.out (by simp; omega)).alloc (.cells #[.int .i64 mk, .int .i64 ms, .int .i64 ma, .slice at_ tags.length ct, .slice ab blocks.length cb] 88)
     have gz := gAlloc (gSets [(⟨w.heap.size, 0, none⟩, .int .i64 0), (⟨w.heap.size, 1, none⟩, .slice none 0 0), (⟨w.heap.size, 2, none⟩, .slice none 0 0), (⟨w.heap.size, 3, none⟩, .slice none 0 0), (⟨w.heap.size, 4, none⟩, .bool false), (⟨w.heap.size, 5, none⟩, .int .i64 0), (⟨w.heap.size, 6, none⟩, .bool false), (⟨w.heap.size, 7, none⟩, .int .i64 0), (⟨w.heap.size, 8, none⟩, .bool false), (⟨w.heap.size, 9, none⟩, .int .i64 0)] _ g2.out (by simp)) (.cells #[.int .i64 mk, .int .i64 ms, .int .i64 ma, .slice at_ tags.length ct, .slice ab blocks.length cb] 88)
     exact bodyPost_ret (v := .tuple #[.agg #[.int .i64 0, .slice none 0 0, .slice none 0 0, .slice none 0 0, .bool false, .int .i64 0, .bool false, .int .i64 0, .bool false, .int .i64 0], .bool false]) (by simp [results, Tryz.results75, go_sem, z0, z1, z2, z3, z4, z5, z6, z7, z8, z9, lt42]) rfl (.inr ⟨hno.out, rfl, _, kz, gz⟩)
    ·have hde2 : (de != 0) = true := bne_iff_ne.2 hde
     clear hc hde
     go_wp2_with ((go_at_call 105; ((with_reducible refine (hN1.out s r _ (hd.out.below nx) kb hs.out).mono ?_); rintro e w1 ⟨rfl, kb1, gn⟩; replace om := om.grownBlk kb (by decide) gn; replace or_ := or_.grownBlk kb (by decide) gn; replace k4 := k4.grown gn (by simp; omega); replace k6 := k6.grown gn (by simp; omega); replace kb := kb1; replace g := gTrans g gn; replace nx := gBelow g hW hwW hbr; have lt4 := k4.lt; have lt6 := k6.lt)))
     go_wp2_with ((go_at_call 74; ((with_reducible refine (hDs.out _ hsz1).mono ?_); rintro e w2 ⟨v2, rfl, hmk, hb⟩; obtain ⟨vt, vb, rfl, ot, ob, t1, t2⟩ := hmk; dsimp only at ot ob t1 t2 ⊢; obtain ⟨at_, ct, rfl⟩ := ot.form; obtain ⟨ab, cb, rfl⟩ := ob.form; replace om := om.below hb; replace or_ := or_.below hb; replace k4 := k4.step hb; replace k6 := k6.step hb; replace kb := kb.step hb; replace g := gBnew g hb; replace nx := nx.trans (hb.mono nx.size); have lt4 := k4.lt; have lt6 := k6.lt; (try clear z0 z1 z2 z3 z4 z5 z6 z7 z8 z9); (try clear f0 f1 f2 f3 f4 f5 f6 f7 f8 f9); have z0 := k4.cell 0; have z1 := k4.cell 1; have z2 := k4.cell 2; have z3 := k4.cell 3; have z4 := k4.cell 4; have z5 := k4.cell 5; have z6 := k4.cell 6; have z7 := k4.cell 7; have z8 := k4.cell 8; have z9 := k4.cell 9; have f0 := k4.free 0; have f1 := k4.free 1; have f2 := k4.free 2; have f3 := k4.free 3; have f4 := k4.free 4; have f5 := k4.free 5; have f6 := k4.free 6; have f7 := k4.free 7; have f8 := k4.free 8; have f9 := k4.free 9; simp only [Zga, Zgb, Zgc] at z0 z1 z2 z3 z4 z5 z6 z7 z8 z9; have kb2 := hid kb; have g2 := hid g; have om2 := hid om; have or2 := hid or_; have lt42 := k4.lt; have km := Blk.new w2 #[.int .i64 mk, .int .i64 ms, .int .i64 ma, .slice at_ tags.length ct, .slice ab blocks.length cb] 88; have lg2 := g.size; replace ot := ot.alloc (.cells #[.int .i64 mk, .int .i64 ms, .int .i64 ma, .slice at_ tags.length ct, .slice ab blocks.length cb] 88); replace ob := ob.alloc (.cells #[.int .i64 mk, .int .i64 ms, .int .i64 ma, .slice at_ tags.length ct, .slice ab blocks.length cb] 88); have lw12 := hb.size; replace om := om.alloc (.cells #[.int .i64 mk, .int .i64 ms, .int .i64 ma, .slice at_ tags.length ct, .slice ab blocks.length cb] 88); replace or_ := or_.alloc (.cells #[.int .i64 mk, .int .i64 ms, .int .i64 ma, .slice at_ tags.length ct, .slice ab blocks.length cb] 88); replace k4 := k4.alloc (.cells #[.int .i64 mk, .int .i64 ms, .int .i64 ma, .slice at_ tags.length ct, .slice ab blocks.length cb] 88); replace k6 := k6.alloc (.cells #[.int .i64 mk, .int .i64 ms, .int .i64 ma, .slice at_ tags.length ct, .slice ab blocks.length cb] 88); replace kb := kb.alloc (.cells #[.int .i64 mk, .int .i64 ms, .int .i64 ma, .slice at_ tags.length ct, .slice ab blocks.length cb] 88); replace g := gAlloc g (.cells #[.int .i64 mk, .int .i64 ms, .int .i64 ma, .slice at_ tags.length ct, .slice ab blocks.length cb] 88); replace nx := bal nx (.cells #[.int .i64 mk, .int .i64 ms, .int .i64 ma, .slice at_ tags.length ct, .slice ab blocks.length cb] 88); have lt4 := k4.lt; have lt6 := k6.lt)))
     have kz := (Blk.setCells [(⟨w.heap.size, 0, none⟩, .int .i64 0), (⟨w.heap.size, 1, none⟩, .slice none 0 0), (⟨w.heap.size, 2, none⟩, .slice none 0 0), (⟨w.heap.size, 3, none⟩, .slice none 0 0), (⟨w.heap.size, 4, none⟩, .bool false), (⟨w.heap.size, 5, none⟩, .int .i64 0), (⟨w.heap.size, 6, none⟩, .bool false), (⟨w.heap.size, 7, none⟩, .int .i64 0), (⟨w.heap.size, 8, none⟩, .bool false), (⟨w.heap.size, 9, none⟩, .int .i64 0)] _ kb2.out (by simp; omega)).alloc (.cells #[.int .i64 mk, .int .i64 ms, .int .i64 ma, .slice at_ tags.length ct, .slice ab blocks.length cb] 88)
     have gz := gAlloc (gSets [(⟨w.heap.size, 0, none⟩, .int .i64 0), (⟨w.heap.size, 1, none⟩, .slice none 0 0), (⟨w.heap.size, 2, none⟩, .slice none 0 0), (⟨w.heap.size, 3, none⟩, .slice none 0 0), (⟨w.heap.size, 4, none⟩, .bool false), (⟨w.heap.size, 5, none⟩, .int .i64 0), (⟨w.heap.size, 6, none⟩, .bool false), (⟨w.heap.size, 7, none⟩, .int .i64 0), (⟨w.heap.size, 8, none⟩, .bool false), (⟨w.heap.size, 9, none⟩, .int .i64 0)] _ g2.out (by simp)) (.cells #[.int .i64 mk, .int .i64 ms, .int .i64 ma, .slice at_ tags.length ct, .slice ab blocks.length cb] 88)
     exact bodyPost_ret (v := .tuple #[.agg #[.int .i64 0, .slice none 0 0, .slice none 0 0, .slice none 0 0, .bool false, .int .i64 0, .bool false, .int .i64 0, .bool false, .int .i64 0], .bool false]) (by simp [results, Tryz.results75, go_sem, z0, z1, z2, z3, z4, z5, z6, z7, z8, z9, lt42]) rfl (.inr ⟨hno.out, rfl, _, kz, gz⟩)
   obtain ⟨hde, rfl⟩ := hc
   obtain ⟨q1, q2, _⟩ := hbd hde
   rw [if_pos ⟨hde, rfl⟩] at hp1
   have hde2 : (de != 0) = false := by rw [hde]; rfl
   have hms : (ms != ms) = false := by simp
   clear hbd hde hp hsz
   by_cases h4 : mk = 4
   ·rw [if_pos h4] at hp1
    have e4 : (mk == 4) = true := beq_iff_eq.2 h4
    replace hp1 := hid hp1
    clear h4
    go_wp2_with ((go_at_call 105; ((with_reducible refine (hN1.out s r _ (hd.out.below nx) kb hs.out).mono ?_); rintro e w1 ⟨rfl, kb1, gn⟩; replace om := om.grownBlk kb (by decide) gn; replace or_ := or_.grownBlk kb (by decide) gn; replace k4 := k4.grown gn (by simp; omega); replace k6 := k6.grown gn (by simp; omega); replace kb := kb1; replace g := gTrans g gn; replace nx := gBelow g hW hwW hbr; have lt4 := k4.lt; have lt6 := k6.lt)))
    go_wp2_with ((((go_at_call 74; ((with_reducible refine (hDs.out _ hsz1).mono ?_); rintro e w2 ⟨v2, rfl, hmk, hb⟩; obtain ⟨vt, vb, rfl, ot, ob, t1, t2⟩ := hmk; dsimp only at ot ob t1 t2 ⊢; obtain ⟨at_, ct, rfl⟩ := ot.form; obtain ⟨ab, cb, rfl⟩ := ob.form; replace om := om.below hb; replace or_ := or_.below hb; replace k4 := k4.step hb; replace k6 := k6.step hb; replace kb := kb.step hb; replace g := gBnew g hb; replace nx := nx.trans (hb.mono nx.size); have lt4 := k4.lt; have lt6 := k6.lt; (try clear z0 z1 z2 z3 z4 z5 z6 z7 z8 z9); (try clear f0 f1 f2 f3 f4 f5 f6 f7 f8 f9); have z0 := k4.cell 0; have z1 := k4.cell 1; have z2 := k4.cell 2; have z3 := k4.cell 3; have z4 := k4.cell 4; have z5 := k4.cell 5; have z6 := k4.cell 6; have z7 := k4.cell 7; have z8 := k4.cell 8; have z9 := k4.cell 9; have f0 := k4.free 0; have f1 := k4.free 1; have f2 := k4.free 2; have f3 := k4.free 3; have f4 := k4.free 4; have f5 := k4.free 5; have f6 := k4.free 6; have f7 := k4.free 7; have f8 := k4.free 8; have f9 := k4.free 9; simp only [Zga, Zgb, Zgc] at z0 z1 z2 z3 z4 z5 z6 z7 z8 z9; have kb2 := hid kb; have g2 := hid g; have om2 := hid om; have or2 := hid or_; have lt42 := k4.lt; have km := Blk.new w2 #[.int .i64 mk, .int .i64 ms, .int .i64 ma, .slice at_ tags.length ct, .slice ab blocks.length cb] 88; have lg2 := g.size; replace ot := ot.alloc (.cells #[.int .i64 mk, .int .i64 ms, .int .i64 ma, .slice at_ tags.length ct, .slice ab blocks.length cb] 88); replace ob := ob.alloc (.cells #[.int .i64 mk, .int .i64 ms, .int .i64 ma, .slice at_ tags.length ct, .slice ab blocks.length cb] 88); have lw12 := hb.size; replace om := om.alloc (.cells #[.int .i64 mk, .int .i64 ms, .int .i64 ma, .slice at_ tags.length ct, .slice ab blocks.length cb] 88); replace or_ := or_.alloc (.cells #[.int .i64 mk, .int .i64 ms, .int .i64 ma, .slice at_ tags.length ct, .slice ab blocks.length cb] 88); replace k4 := k4.alloc (.cells #[.int .i64 mk, .int .i64 ms, .int .i64 ma, .slice at_ tags.length ct, .slice ab blocks.length cb] 88); replace k6 := k6.alloc (.cells #[.int .i64 mk, .int .i64 ms, .int .i64 ma, .slice at_ tags.length ct, .slice ab blocks.length cb] 88); replace kb := kb.alloc (.cells #[.int .i64 mk, .int .i64 ms, .int .i64 ma, .slice at_ tags.length ct, .slice ab blocks.length cb] 88); replace g := gAlloc g (.cells #[.int .i64 mk, .int .i64 ms, .int .i64 ma, .slice at_ tags.length ct, .slice ab blocks.length cb] 88); replace nx := bal nx (.cells #[.int .i64 mk, .int .i64 ms, .int .i64 ma, .slice at_ tags.length ct, .slice ab blocks.length cb] 88); have lt4 := k4.lt; have lt6 := k6.lt))); have y0 := k6.cell 0; have y1 := k6.cell 1; have y2 := k6.cell 2; have y3 := k6.cell 3; have y4 := k6.cell 4; have y5 := k6.cell 5; have y6 := k6.cell 6; have y7 := k6.cell 7; have y8 := k6.cell 8; have y9 := k6.cell 9; simp only [Zga, Zgb, Zgc] at y0 y1 y2 y3 y4 y5 y6 y7 y8 y9))
    have kz := (Blk.setCells [(⟨w.heap.size, 0, none⟩, .int .i64 ms), (⟨w.heap.size, 1, none⟩, .slice am mt.length cm), (⟨w.heap.size, 2, none⟩, .slice none 0 0), (⟨w.heap.size, 3, none⟩, .slice ar rev.length cr), (⟨w.heap.size, 4, none⟩, .bool false), (⟨w.heap.size, 5, none⟩, .int .i64 0), (⟨w.heap.size, 6, none⟩, .bool false), (⟨w.heap.size, 7, none⟩, .int .i64 0), (⟨w.heap.size, 8, none⟩, .bool false), (⟨w.heap.size, 9, none⟩, .int .i64 0)] _ kb2.out (by simp; omega)).alloc (.cells #[.int .i64 mk, .int .i64 ms, .int .i64 ma, .slice at_ tags.length ct, .slice ab blocks.length cb] 88)
    have gz := gAlloc (gSets [(⟨w.heap.size, 0, none⟩, .int .i64 ms), (⟨w.heap.size, 1, none⟩, .slice am mt.length cm), (⟨w.heap.size, 2, none⟩, .slice none 0 0), (⟨w.heap.size, 3, none⟩, .slice ar rev.length cr), (⟨w.heap.size, 4, none⟩, .bool false), (⟨w.heap.size, 5, none⟩, .int .i64 0), (⟨w.heap.size, 6, none⟩, .bool false), (⟨w.heap.size, 7, none⟩, .int .i64 0), (⟨w.heap.size, 8, none⟩, .bool false), (⟨w.heap.size, 9, none⟩, .int .i64 0)] _ g2.out (by simp)) (.cells #[.int .i64 mk, .int .i64 ms, .int .i64 ma, .slice at_ tags.length ct, .slice ab blocks.length cb] 88)
    have omz := (om2.out.setCells [(⟨w.heap.size, 0, none⟩, .int .i64 ms), (⟨w.heap.size, 1, none⟩, .slice am mt.length cm), (⟨w.heap.size, 2, none⟩, .slice none 0 0), (⟨w.heap.size, 3, none⟩, .slice ar rev.length cr), (⟨w.heap.size, 4, none⟩, .bool false), (⟨w.heap.size, 5, none⟩, .int .i64 0), (⟨w.heap.size, 6, none⟩, .bool false), (⟨w.heap.size, 7, none⟩, .int .i64 0), (⟨w.heap.size, 8, none⟩, .bool false), (⟨w.heap.size, 9, none⟩, .int .i64 0)] _ (by simp)).alloc (.cells #[.int .i64 mk, .int .i64 ms, .int .i64 ma, .slice at_ tags.length ct, .slice ab blocks.length cb] 88)
    have orz := (or2.out.setCells [(⟨w.heap.size, 0, none⟩, .int .i64 ms), (⟨w.heap.size, 1, none⟩, .slice am mt.length cm), (⟨w.heap.size, 2, none⟩, .slice none 0 0), (⟨w.heap.size, 3, none⟩, .slice ar rev.length cr), (⟨w.heap.size, 4, none⟩, .bool false), (⟨w.heap.size, 5, none⟩, .int .i64 0), (⟨w.heap.size, 6, none⟩, .bool false), (⟨w.heap.size, 7, none⟩, .int .i64 0), (⟨w.heap.size, 8, none⟩, .bool false), (⟨w.heap.size, 9, none⟩, .int .i64 0)] _ (by simp)).alloc (.cells #[.int .i64 mk, .int .i64 ms, .int .i64 ma, .slice at_ tags.length ct, .slice ab blocks.length cb] 88)
    have lm1 : mt.length <= 5864062014805 := by omega
    have lr1 : rev.length <= 17592186044160 := by omega
    exact bodyPost_ret (v := .tuple #[.agg #[.int .i64 ms, .slice am mt.length cm, .slice none 0 0, .slice ar rev.length cr, .bool false, .int .i64 0, .bool false, .int .i64 0, .bool false, .int .i64 0], .bool true]) (by simp [results, Tryz.results75, go_sem, z0, z1, z2, z3, z4, z5, z6, z7, z8, z9, lt42]) rfl (.inl ⟨_, _, hp1.out.symm, _, rfl, ⟨_, _, _, rfl, omz.mono (by omega), Own.nil _ _ _ _ _, orz.mono (by omega), lm1, by simp, lr1⟩, kz, gz⟩)
   rw [if_neg h4] at hp1
   have e4 : (mk == 4) = false := beq_eq_false_iff_ne.2 h4
   by_cases h3 : mk = 3
   ·rw [if_pos h3] at hp1
    have e3 : (mk == 3) = true := beq_iff_eq.2 h3
    replace hp1 := hid hp1
    clear h4 h3
    obtain ⟨rev2, hrv⟩ : ∃ r2, r2 = rev ++ blocks := ⟨_, rfl⟩
    have hrl2 : rev2.length = rev.length + blocks.length := by rw [hrv, List.length_append]
    replace hrv := hid hrv; replace hrl2 := hid hrl2
    go_wp2_with ((go_at_call 105; ((with_reducible refine (hN1.out s r _ (hd.out.below nx) kb hs.out).mono ?_); rintro e w1 ⟨rfl, kb1, gn⟩; replace om := om.grownBlk kb (by decide) gn; replace or_ := or_.grownBlk kb (by decide) gn; replace k4 := k4.grown gn (by simp; omega); replace k6 := k6.grown gn (by simp; omega); replace kb := kb1; replace g := gTrans g gn; replace nx := gBelow g hW hwW hbr; have lt4 := k4.lt; have lt6 := k6.lt)))
    go_wp2_with (first
     | ((go_at_call 74; ((with_reducible refine (hDs.out _ hsz1).mono ?_); rintro e w2 ⟨v2, rfl, hmk, hb⟩; obtain ⟨vt, vb, rfl, ot, ob, t1, t2⟩ := hmk; dsimp only at ot ob t1 t2 ⊢; obtain ⟨at_, ct, rfl⟩ := ot.form; obtain ⟨ab, cb, rfl⟩ := ob.form; replace om := om.below hb; replace or_ := or_.below hb; replace k4 := k4.step hb; replace k6 := k6.step hb; replace kb := kb.step hb; replace g := gBnew g hb; replace nx := nx.trans (hb.mono nx.size); have lt4 := k4.lt; have lt6 := k6.lt; (try clear z0 z1 z2 z3 z4 z5 z6 z7 z8 z9); (try clear f0 f1 f2 f3 f4 f5 f6 f7 f8 f9); have z0 := k4.cell 0; have z1 := k4.cell 1; have z2 := k4.cell 2; have z3 := k4.cell 3; have z4 := k4.cell 4; have z5 := k4.cell 5; have z6 := k4.cell 6; have z7 := k4.cell 7; have z8 := k4.cell 8; have z9 := k4.cell 9; have f0 := k4.free 0; have f1 := k4.free 1; have f2 := k4.free 2; have f3 := k4.free 3; have f4 := k4.free 4; have f5 := k4.free 5; have f6 := k4.free 6; have f7 := k4.free 7; have f8 := k4.free 8; have f9 := k4.free 9; simp only [Zga, Zgb, Zgc] at z0 z1 z2 z3 z4 z5 z6 z7 z8 z9; have kb2 := hid kb; have g2 := hid g; have om2 := hid om; have or2 := hid or_; have lt42 := k4.lt; have km := Blk.new w2 #[.int .i64 mk, .int .i64 ms, .int .i64 ma, .slice at_ tags.length ct, .slice ab blocks.length cb] 88; have lg2 := g.size; replace ot := ot.alloc (.cells #[.int .i64 mk, .int .i64 ms, .int .i64 ma, .slice at_ tags.length ct, .slice ab blocks.length cb] 88); replace ob := ob.alloc (.cells #[.int .i64 mk, .int .i64 ms, .int .i64 ma, .slice at_ tags.length ct, .slice ab blocks.length cb] 88); have lw12 := hb.size; replace om := om.alloc (.cells #[.int .i64 mk, .int .i64 ms, .int .i64 ma, .slice at_ tags.length ct, .slice ab blocks.length cb] 88); replace or_ := or_.alloc (.cells #[.int .i64 mk, .int .i64 ms, .int .i64 ma, .slice at_ tags.length ct, .slice ab blocks.length cb] 88); replace k4 := k4.alloc (.cells #[.int .i64 mk, .int .i64 ms, .int .i64 ma, .slice at_ tags.length ct, .slice ab blocks.length cb] 88); replace k6 := k6.alloc (.cells #[.int .i64 mk, .int .i64 ms, .int .i64 ma, .slice at_ tags.length ct, .slice ab blocks.length cb] 88); replace kb := kb.alloc (.cells #[.int .i64 mk, .int .i64 ms, .int .i64 ma, .slice at_ tags.length ct, .slice ab blocks.length cb] 88); replace g := gAlloc g (.cells #[.int .i64 mk, .int .i64 ms, .int .i64 ma, .slice at_ tags.length ct, .slice ab blocks.length cb] 88); replace nx := bal nx (.cells #[.int .i64 mk, .int .i64 ms, .int .i64 ma, .slice at_ tags.length ct, .slice ab blocks.length cb] 88); have lt4 := k4.lt; have lt6 := k6.lt)); have y3 := k6.cell 3; have m4 := km.cell 4; simp only [Zga, Zgb, Zgc] at y3 m4; have hwn := gn.size)
     | (at_builtin; (refine wpList_app rfl _ _ _ rfl (w.heap.size + 2) _ 1 8 intC_flat elemIntT or_ rfl blocks ob.reads rfl (by omega) (by unfold maxLen; omega) (by simp; omega) ?_; intro v7 w7 hown7 hg7; rw [<- hrv.out] at hown7; obtain ⟨ar7, cr7, rfl⟩ := hown7.form; have k67 := k6.grown hg7 (or_.blk_ne k6 (by decide)); have yf3 := k67.free 3; have yc3 := k67.cell 3; simp only [Zga, Zgb, Zgc] at yc3)))
    have om7 := (om.grownTy or_ (by decide) hg7).setCell (p := ⟨w.heap.size + 1, 3, none⟩) (by simp) (.slice ar7 rev2.length cr7)
    have or7 := hown7.setCell (p := ⟨w.heap.size + 1, 3, none⟩) (by simp) (.slice ar7 rev2.length cr7)
    have k47 := (k4.grown hg7 (or_.blk_ne k4 (by decide))).set_other ⟨w.heap.size + 1, 3, none⟩ (.slice ar7 rev2.length cr7) (by simp)
    have k68 := k67.set 3 (.slice ar7 rev2.length cr7)
    have kb7 := (kb.grown hg7 (or_.blk_ne kb (by decide))).set_other ⟨w.heap.size + 1, 3, none⟩ (.slice ar7 rev2.length cr7) (by simp; omega)
    have g7 := gSets [(⟨w.heap.size + 1, 3, none⟩, .slice ar7 rev2.length cr7)] _ (gNew g hg7 or_ (by omega)) (by simp)
    have s7 : w.heap.size + 2 <= (w7.setCell ⟨w.heap.size + 1, 3, none⟩ (.slice ar7 rev2.length cr7)).heap.size := by have := hg7.size; simp at this ⊢; omega
    replace om7 := hid om7; replace or7 := hid or7; replace k47 := hid k47; replace k68 := hid k68; replace kb7 := hid kb7; replace g7 := hid g7; replace s7 := hid s7
    go_wp2
    go_roundg r.length
    case measure => simp
    case rel => exact ⟨r, mt, rev2, rfl, hs2, hsz2, by rw [hrv.out]; exact hp1, _, _, om7.out, or7.out, k47.out, k68.out, kb7.out, g7.out, s7.out, by rw [hrl2.out]; omega, by omega⟩
   rw [if_neg h3] at hp1
   have e3 : (mk == 3) = false := beq_eq_false_iff_ne.2 h3
   by_cases h2 : mk = 2
   ·rw [if_pos h2] at hp1
    have e2 : (mk == 2) = true := beq_iff_eq.2 h2
    replace hp1 := hid hp1
    clear h4 h3 h2
    go_wp2_with ((go_at_call 105; ((with_reducible refine (hN1.out s r _ (hd.out.below nx) kb hs.out).mono ?_); rintro e w1 ⟨rfl, kb1, gn⟩; replace om := om.grownBlk kb (by decide) gn; replace or_ := or_.grownBlk kb (by decide) gn; replace k4 := k4.grown gn (by simp; omega); replace k6 := k6.grown gn (by simp; omega); replace kb := kb1; replace g := gTrans g gn; replace nx := gBelow g hW hwW hbr; have lt4 := k4.lt; have lt6 := k6.lt)))
    go_wp2_with (((go_at_call 74; ((with_reducible refine (hDs.out _ hsz1).mono ?_); rintro e w2 ⟨v2, rfl, hmk, hb⟩; obtain ⟨vt, vb, rfl, ot, ob, t1, t2⟩ := hmk; dsimp only at ot ob t1 t2 ⊢; obtain ⟨at_, ct, rfl⟩ := ot.form; obtain ⟨ab, cb, rfl⟩ := ob.form; replace om := om.below hb; replace or_ := or_.below hb; replace k4 := k4.step hb; replace k6 := k6.step hb; replace kb := kb.step hb; replace g := gBnew g hb; replace nx := nx.trans (hb.mono nx.size); have lt4 := k4.lt; have lt6 := k6.lt; (try clear z0 z1 z2 z3 z4 z5 z6 z7 z8 z9); (try clear f0 f1 f2 f3 f4 f5 f6 f7 f8 f9); have z0 := k4.cell 0; have z1 := k4.cell 1; have z2 := k4.cell 2; have z3 := k4.cell 3; have z4 := k4.cell 4; have z5 := k4.cell 5; have z6 := k4.cell 6; have z7 := k4.cell 7; have z8 := k4.cell 8; have z9 := k4.cell 9; have f0 := k4.free 0; have f1 := k4.free 1; have f2 := k4.free 2; have f3 := k4.free 3; have f4 := k4.free 4; have f5 := k4.free 5; have f6 := k4.free 6; have f7 := k4.free 7; have f8 := k4.free 8; have f9 := k4.free 9; simp only [Zga, Zgb, Zgc] at z0 z1 z2 z3 z4 z5 z6 z7 z8 z9; have kb2 := hid kb; have g2 := hid g; have om2 := hid om; have or2 := hid or_; have lt42 := k4.lt; have km := Blk.new w2 #[.int .i64 mk, .int .i64 ms, .int .i64 ma, .slice at_ tags.length ct, .slice ab blocks.length cb] 88; have lg2 := g.size; replace ot := ot.alloc (.cells #[.int .i64 mk, .int .i64 ms, .int .i64 ma, .slice at_ tags.length ct, .slice ab blocks.length cb] 88); replace ob := ob.alloc (.cells #[.int .i64 mk, .int .i64 ms, .int .i64 ma, .slice at_ tags.length ct, .slice ab blocks.length cb] 88); have lw12 := hb.size; replace om := om.alloc (.cells #[.int .i64 mk, .int .i64 ms, .int .i64 ma, .slice at_ tags.length ct, .slice ab blocks.length cb] 88); replace or_ := or_.alloc (.cells #[.int .i64 mk, .int .i64 ms, .int .i64 ma, .slice at_ tags.length ct, .slice ab blocks.length cb] 88); replace k4 := k4.alloc (.cells #[.int .i64 mk, .int .i64 ms, .int .i64 ma, .slice at_ tags.length ct, .slice ab blocks.length cb] 88); replace k6 := k6.alloc (.cells #[.int .i64 mk, .int .i64 ms, .int .i64 ma, .slice at_ tags.length ct, .slice ab blocks.length cb] 88); replace kb := kb.alloc (.cells #[.int .i64 mk, .int .i64 ms, .int .i64 ma, .slice at_ tags.length ct, .slice ab blocks.length cb] 88); replace g := gAlloc g (.cells #[.int .i64 mk, .int .i64 ms, .int .i64 ma, .slice at_ tags.length ct, .slice ab blocks.length cb] 88); replace nx := bal nx (.cells #[.int .i64 mk, .int .i64 ms, .int .i64 ma, .slice at_ tags.length ct, .slice ab blocks.length cb] 88); have lt4 := k4.lt; have lt6 := k6.lt)); have m3 := km.cell 3; simp only [Zga, Zgb, Zgc] at m3; have hwn := gn.size))
    replace ot := ot.mono (base' := w.heap.size + 2) (by omega)
    have s2' : w.heap.size + 2 <= (w2.alloc (.cells #[.int .i64 mk, .int .i64 ms, .int .i64 ma, .slice at_ tags.length ct, .slice ab blocks.length cb] 88)).heap.size := by simp; omega
    have hr23 : mt.length + r.length <= 23 := by omega
    have ht0 := hid (show takeTags (tags.drop 0) r mt = takeTags tags r mt by rw [List.drop_zero])
    clear z0 z1 z2 z3 z4 z5 z6 z7 z8 z9 f0 f1 f2 f3 f4 f5 f6 f7 f8 f9
    go_loopw [12, 13, 14, 58] (fun _ _ _ i wx => ∃ (k : Nat) (rr : List ByteArray) (mtk : List Cpy), k <= tags.length /\ i = .int .i64 (k : Int) /\ Hid (takeTags (tags.drop k) rr mtk = takeTags tags r mt) /\ Hid (sfx d A rr) /\ Hid (∀ s ∈ rr, s.size <= 9223372036854775807) /\ ∃ vmk, Wb.Own cpyC (w.heap.size + 2) 63 2 wx vmk mtk /\ Wb.Own intC (w.heap.size + 2) 3 1 wx (.slice ar rev.length cr) rev /\ Wb.Own tagC (w.heap.size + 2) 136 2 wx (.slice at_ tags.length ct) tags /\ Blk wx w.heap.size #[.int .i64 0, .slice none 0 0, .slice none 0 0, .slice none 0 0, .bool false, .int .i64 0, .bool false, .int .i64 0, .bool false, .int .i64 0] 43 /\ Blk wx (w.heap.size + 1) #[.int .i64 ms, vmk, .slice none 0 0, .slice ar rev.length cr, .bool false, .int .i64 0, .bool false, .int .i64 0, .bool false, .int .i64 0] 43 /\ Blk wx br (rdrC vs vw A rr.length) 150 /\ w.grownBy wx (some br) /\ w.heap.size + 2 <= wx.heap.size /\ mtk.length + rr.length <= 23 /\ rr.length <= r.length) (fun _ _ _ i _ => tags.length - (intOf i).toNat)
    case atStart => exact ⟨0, r, mt, Nat.zero_le _, rfl, ht0, hs2, hsz2, _, om, or_, ot, k4, k6, kb, g, s2', hr23, Nat.le_refl _⟩
    case round =>
     clear om or_ ot k4 k6 kb g s2' nx kb2 g2 om2 or2 lt42 hr23 ht0 km ob m3 hs hs2 hsz2 lt4 lt6 lg2 lw12
     obtain ⟨k, rr, mtk, hk, rfl, htk, hs, hsz, vmk, om, or_, ot, k4, k6, kb, g, hg3, hb3, hrl⟩ := hrel
     obtain ⟨am2, cm2, rfl⟩ := om.form
     have lt4 := k4.lt
     have lt6 := k6.lt
     have nx := gBelow g hW hwW hbr
     by_cases hlt : k < tags.length
     ·obtain ⟨bt, ot_, rfl, t0, t1⟩ := RL.at2 (fun x => .int .i64 x.block) (fun x => .bool x.esc) (fun _ => rfl) ot.reads hlt
      have hdk : tags.drop k = tags[k] :: tags.drop (k + 1) := List.drop_eq_getElem_cons hlt
      replace htk := htk.out
      rw [hdk] at htk
      clear hdk
      generalize tags[k] = x at *
      obtain ⟨xb, xe⟩ := x
      dsimp only at t0 t1
      have kt := Blk.new wr #[.int .i64 xb, .bool xe] 136
      cases rr with
      | nil =>
       have hno := hid (show parseT ms 25 r0 (txn0 ms) = none by
        have := hp1.out
        rw [<- htk] at this
        exact this.symm)
       clear htk hp1
       have kb2 := hid kb; have g2 := hid g; have lt42 := k4.lt
       (try clear z0 z1 z2 z3 z4 z5 z6 z7 z8 z9); (try clear f0 f1 f2 f3 f4 f5 f6 f7 f8 f9); have z0 := k4.cell 0; have z1 := k4.cell 1; have z2 := k4.cell 2; have z3 := k4.cell 3; have z4 := k4.cell 4; have z5 := k4.cell 5; have z6 := k4.cell 6; have z7 := k4.cell 7; have z8 := k4.cell 8; have z9 := k4.cell 9; have f0 := k4.free 0; have f1 := k4.free 1; have f2 := k4.free 2; have f3 := k4.free 3; have f4 := k4.free 4; have f5 := k4.free 5; have f6 := k4.free 6; have f7 := k4.free 7; have f8 := k4.free 8; have f9 := k4.free 9; simp only [Zga, Zgb, Zgc] at z0 z1 z2 z3 z4 z5 z6 z7 z8 z9
       replace kb := kb.alloc (.cells #[.int .i64 xb, .bool xe] 136)
       go_wp2_with (go_at_call 105; ((with_reducible refine (hN0.out _ kb).mono ?_); rintro e w1 ⟨rfl, rfl⟩))
       have kz := (Blk.setCells [(⟨w.heap.size, 0, none⟩, .int .i64 0), (⟨w.heap.size, 1, none⟩, .slice none 0 0), (⟨w.heap.size, 2, none⟩, .slice none 0 0), (⟨w.heap.size, 3, none⟩, .slice none 0 0), (⟨w.heap.size, 4, none⟩, .bool false), (⟨w.heap.size, 5, none⟩, .int .i64 0), (⟨w.heap.size, 6, none⟩, .bool false), (⟨w.heap.size, 7, none⟩, .int .i64 0), (⟨w.heap.size, 8, none⟩, .bool false), (⟨w.heap.size, 9, none⟩, .int .i64 0)] _ kb2.out (by simp; omega)).alloc (.cells #[.int .i64 xb, .bool xe] 136)
       have gz := gAlloc (gSets [(⟨w.heap.size, 0, none⟩, .int .i64 0), (⟨w.heap.size, 1, none⟩, .slice none 0 0), (⟨w.heap.size, 2, none⟩, .slice none 0 0), (⟨w.heap.size, 3, none⟩, .slice none 0 0), (⟨w.heap.size, 4, none⟩, .bool false), (⟨w.heap.size, 5, none⟩, .int .i64 0), (⟨w.heap.size, 6, none⟩, .bool false), (⟨w.heap.size, 7, none⟩, .int .i64 0), (⟨w.heap.size, 8, none⟩, .bool false), (⟨w.heap.size, 9, none⟩, .int .i64 0)] _ g2.out (by simp)) (.cells #[.int .i64 xb, .bool xe] 136)
       exact bodyPost_ret (v := .tuple #[.agg #[.int .i64 0, .slice none 0 0, .slice none 0 0, .slice none 0 0, .bool false, .int .i64 0, .bool false, .int .i64 0, .bool false, .int .i64 0], .bool false]) (by simp [results, Tryz.results75, go_sem, z0, z1, z2, z3, z4, z5, z6, z7, z8, z9, lt42]) rfl (.inr ⟨hno.out, rfl, _, kz, gz⟩)
      | cons s2 rr2 =>
       have hU2 := hid (hU.out s2 xe)
       have hsz1 := hsz.out s2 (by simp)
       have hszr := hid (fun x (hx : x ∈ rr2) => hsz.out x (by simp [hx]))
       have hsr := hid (sfx_cons hs.out).1
       have htk2 := hid (show takeTags (tags.drop (k + 1)) rr2 (mtk ++ [⟨xb, unescS s2 xe⟩]) = takeTags tags r mt from htk)
       clear htk hsz
       generalize unescS s2 xe = u2 at *
       simp only [List.length_cons] at hb3 hrl kb
       replace om := om.alloc (.cells #[.int .i64 xb, .bool xe] 136)
       replace or_ := or_.alloc (.cells #[.int .i64 xb, .bool xe] 136)
       replace ot := ot.alloc (.cells #[.int .i64 xb, .bool xe] 136)
       replace k4 := k4.alloc (.cells #[.int .i64 xb, .bool xe] 136)
       replace k6 := k6.alloc (.cells #[.int .i64 xb, .bool xe] 136)
       replace kb := kb.alloc (.cells #[.int .i64 xb, .bool xe] 136)
       replace g := gAlloc g (.cells #[.int .i64 xb, .bool xe] 136)
       replace nx := bal nx (.cells #[.int .i64 xb, .bool xe] 136)
       go_wp2_with (go_at_call 105; ((with_reducible refine (hN1.out s2 rr2 _ (hd.out.below nx) kb hs.out).mono ?_); rintro e w1 ⟨rfl, kb1, gn⟩; replace om := om.grownBlk kb (by decide) gn; replace or_ := or_.grownBlk kb (by decide) gn; replace ot := ot.grownBlk kb (by decide) gn; replace k4 := k4.grown gn (by simp; omega); replace k6 := k6.grown gn (by simp; omega); replace kt := kt.grown gn (by simp; omega); replace kb := kb1; replace g := gTrans g gn; have hwn := gn.size; simp only [World.size_alloc] at hwn; have y1 := k6.cell 1; have x0 := kt.cell 0; have x1 := kt.cell 1; simp only [Zga, Zgb, Zgc] at y1 x0 x1))
       have lt6 := k6.lt
       have ltt := kt.lt
       go_region_law (first
        | (refine step_call 106 _ _ (by rfl) (by rfl) #[.string s2, .bool xe] (by rfl) ⟨_, _, Tryz.func106, by kernel_rfl, rfl⟩ (hU2.out _ hsz1) ?_; rintro e w3 ⟨rfl, hb3'⟩; refine ⟨_, rfl, ?_⟩; replace om := om.drew.below hb3'; replace or_ := or_.drew.below hb3'; replace ot := ot.drew.below hb3'; replace k4 := k4.drew.step hb3'; replace k6 := k6.drew.step hb3'; replace kb := kb.drew.step hb3'; replace kt := kt.drew.step hb3'; replace g := gBnew (gDrew g) hb3'; have hw3 := hb3'.size; simp only [World.size_drew] at hw3; have lt63 := k6.lt; have ltt3 := kt.lt; have e1 := k6.cell 1; have p0 := kt.cell 0; have p1 := kt.cell 1; simp only [Zga, Zgb, Zgc] at e1 p0 p1)
        | (have t1 := om.alloc (.cells #[.int .i64 xb, .string u2] 63); have t2 : w.heap.size + 2 <= (w3.alloc (.cells #[.int .i64 xb, .string u2] 63)).heap.size := (by simp; omega); have t3 : (mtk.length + 1) * 24 <= 140737488355328 := (by omega); have t4 : Blk (w3.alloc (.cells #[.int .i64 xb, .string u2] 63)) w3.heap.size #[.int .i64 xb, .string u2] 63 := Blk.newAt (w := w3) rfl; refine step_push (by rfl) _ _ 37 (by rfl) (w.heap.size + 2) _ 2 24 cpyC_flat elemCpy t1 (by rfl) ⟨xb, u2⟩ w3.heap.size t4 (by rfl) (by rfl) mtk.length rfl t3 (by omega) t2 ?_; clear t2 t3 t4; intro a7 c7 w7 hown7 hb7 hg7; (have q6 := k6.alloc (.cells #[.int .i64 xb, .string u2] 63)); (have k67 := q6.grown hg7 (t1.blk_ne q6 (by decide))); have yf1 := k67.free 1; have yc1 : w7.cell? ⟨w.heap.size + 1, 1, none⟩ = some (.slice am2 mtk.length cm2) := k67.cell 1))
       all_goals
        have om7 := hown7.setCell (p := ⟨w.heap.size + 1, 1, none⟩) (by simp) (.slice a7 (mtk.length + 1) c7)
        have or7 := ((or_.alloc _).grownTy t1 (by decide) hg7).setCell (p := ⟨w.heap.size + 1, 1, none⟩) (by simp) (.slice a7 (mtk.length + 1) c7)
        have ot7 := ((ot.alloc _).grownTy t1 (by decide) hg7).setCell (p := ⟨w.heap.size + 1, 1, none⟩) (by simp) (.slice a7 (mtk.length + 1) c7)
        have k47 := ((k4.alloc _).grown hg7 (t1.blk_ne (k4.alloc _) (by decide))).set_other ⟨w.heap.size + 1, 1, none⟩ (.slice a7 (mtk.length + 1) c7) (by simp)
        have k68 := k67.set 1 (.slice a7 (mtk.length + 1) c7)
        have kb7 := ((kb.alloc _).grown hg7 (t1.blk_ne (kb.alloc _) (by decide))).set_other ⟨w.heap.size + 1, 1, none⟩ (.slice a7 (mtk.length + 1) c7) (by simp; omega)
        have g7 := gSets [(⟨w.heap.size + 1, 1, none⟩, .slice a7 (mtk.length + 1) c7)] _ (gNew (gAlloc g _) hg7 t1 (by omega)) (by simp)
        have s7 : w.heap.size + 2 <= (w7.setCell ⟨w.heap.size + 1, 1, none⟩ (.slice a7 (mtk.length + 1) c7)).heap.size := by have := hg7.size; simp at this ⊢; omega
        replace om7 := hid om7; replace or7 := hid or7; replace ot7 := hid ot7; replace k47 := hid k47; replace k68 := hid k68; replace kb7 := hid kb7; replace g7 := hid g7; replace s7 := hid s7
        go_wp2
        go_roundw
        case rel =>
         first
          | (refine ⟨k + 1, rr2, mtk ++ [⟨xb, u2⟩], by omega, ?_, htk2, hsr, hszr, _, om7.out, or7.out, ot7.out, k47.out, k68.out, kb7.out, g7.out, s7.out, by simp; omega, by omega⟩ <;> go_num; done)
          | ((repeat apply Exists.intro); refine ⟨⟨k + 1, rr2, mtk ++ [⟨xb, u2⟩], by omega, ?_, htk2, hsr, hszr, _, om7.out, or7.out, ot7.out, k47.out, k68.out, kb7.out, g7.out, s7.out, by simp; omega, by omega⟩, rfl⟩ <;> go_num; done)
        case measure => simp [intOf]; omega
     ·obtain rfl : k = tags.length := by omega
      have hp2 := hid (show parseT ms (rr.length + 1) rr ⟨ms, mtk, [], rev, hnd0, hnd0, hnd0⟩ = parseT ms 25 r0 (txn0 ms) by
       have h1 := htk.out
       have h2 := hp1.out
       rw [List.drop_length] at h1
       rw [<- h1] at h2
       refine Eq.trans ?_ h2
       exact parseT_fuel (by omega) (by omega))
      clear htk hp1
      go_wp2
      go_roundg rr.length
      case measure => simp; omega
      case rel => exact ⟨rr, mtk, rev, rfl, hs, hsz, hp2, _, _, om, or_, k4, k6, kb, g, hg3, by omega, by omega⟩
   ·rw [if_neg h2] at hp1
    have e2 : (mk == 2) = false := beq_eq_false_iff_ne.2 h2
    have hno := hid hp1.symm
    clear h4 h3 h2 hp1
    go_wp2_with ((go_at_call 105; ((with_reducible refine (hN1.out s r _ (hd.out.below nx) kb hs.out).mono ?_); rintro e w1 ⟨rfl, kb1, gn⟩; replace om := om.grownBlk kb (by decide) gn; replace or_ := or_.grownBlk kb (by decide) gn; replace k4 := k4.grown gn (by simp; omega); replace k6 := k6.grown gn (by simp; omega); replace kb := kb1; replace g := gTrans g gn; replace nx := gBelow g hW hwW hbr; have lt4 := k4.lt; have lt6 := k6.lt)))
    go_wp2_with ((go_at_call 74; ((with_reducible refine (hDs.out _ hsz1).mono ?_); rintro e w2 ⟨v2, rfl, hmk, hb⟩; obtain ⟨vt, vb, rfl, ot, ob, t1, t2⟩ := hmk; dsimp only at ot ob t1 t2 ⊢; obtain ⟨at_, ct, rfl⟩ := ot.form; obtain ⟨ab, cb, rfl⟩ := ob.form; replace om := om.below hb; replace or_ := or_.below hb; replace k4 := k4.step hb; replace k6 := k6.step hb; replace kb := kb.step hb; replace g := gBnew g hb; replace nx := nx.trans (hb.mono nx.size); have lt4 := k4.lt; have lt6 := k6.lt; (try clear z0 z1 z2 z3 z4 z5 z6 z7 z8 z9); (try clear f0 f1 f2 f3 f4 f5 f6 f7 f8 f9); have z0 := k4.cell 0; have z1 := k4.cell 1; have z2 := k4.cell 2; have z3 := k4.cell 3; have z4 := k4.cell 4; have z5 := k4.cell 5; have z6 := k4.cell 6; have z7 := k4.cell 7; have z8 := k4.cell 8; have z9 := k4.cell 9; have f0 := k4.free 0; have f1 := k4.free 1; have f2 := k4.free 2; have f3 := k4.free 3; have f4 := k4.free 4; have f5 := k4.free 5; have f6 := k4.free 6; have f7 := k4.free 7; have f8 := k4.free 8; have f9 := k4.free 9; simp only [Zga, Zgb, Zgc] at z0 z1 z2 z3 z4 z5 z6 z7 z8 z9; have kb2 := hid kb; have g2 := hid g; have om2 := hid om; have or2 := hid or_; have lt42 := k4.lt; have km := Blk.new w2 #[.int .i64 mk, .int .i64 ms, .int .i64 ma, .slice at_ tags.length ct, .slice ab blocks.length cb] 88; have lg2 := g.size; replace ot := ot.alloc (.cells #[.int .i64 mk, .int .i64 ms, .int .i64 ma, .slice at_ tags.length ct, .slice ab blocks.length cb] 88); replace ob := ob.alloc (.cells #[.int .i64 mk, .int .i64 ms, .int .i64 ma, .slice at_ tags.length ct, .slice ab blocks.length cb] 88); have lw12 := hb.size; replace om := om.alloc (.cells #[.int .i64 mk, .int .i64 ms, .int .i64 ma, .slice at_ tags.length ct, .slice ab blocks.length cb] 88); replace or_ := or_.alloc (.cells #[.int .i64 mk, .int .i64 ms, .int .i64 ma, .slice at_ tags.length ct, .slice ab blocks.length cb] 88); replace k4 := k4.alloc (.cells #[.int .i64 mk, .int .i64 ms, .int .i64 ma, .slice at_ tags.length ct, .slice ab blocks.length cb] 88); replace k6 := k6.alloc (.cells #[.int .i64 mk, .int .i64 ms, .int .i64 ma, .slice at_ tags.length ct, .slice ab blocks.length cb] 88); replace kb := kb.alloc (.cells #[.int .i64 mk, .int .i64 ms, .int .i64 ma, .slice at_ tags.length ct, .slice ab blocks.length cb] 88); replace g := gAlloc g (.cells #[.int .i64 mk, .int .i64 ms, .int .i64 ma, .slice at_ tags.length ct, .slice ab blocks.length cb] 88); replace nx := bal nx (.cells #[.int .i64 mk, .int .i64 ms, .int .i64 ma, .slice at_ tags.length ct, .slice ab blocks.length cb] 88); have lt4 := k4.lt; have lt6 := k6.lt)))
    have kz := (Blk.setCells [(⟨w.heap.size, 0, none⟩, .int .i64 0), (⟨w.heap.size, 1, none⟩, .slice none 0 0), (⟨w.heap.size, 2, none⟩, .slice none 0 0), (⟨w.heap.size, 3, none⟩, .slice none 0 0), (⟨w.heap.size, 4, none⟩, .bool false), (⟨w.heap.size, 5, none⟩, .int .i64 0), (⟨w.heap.size, 6, none⟩, .bool false), (⟨w.heap.size, 7, none⟩, .int .i64 0), (⟨w.heap.size, 8, none⟩, .bool false), (⟨w.heap.size, 9, none⟩, .int .i64 0)] _ kb2.out (by simp; omega)).alloc (.cells #[.int .i64 mk, .int .i64 ms, .int .i64 ma, .slice at_ tags.length ct, .slice ab blocks.length cb] 88)
    have gz := gAlloc (gSets [(⟨w.heap.size, 0, none⟩, .int .i64 0), (⟨w.heap.size, 1, none⟩, .slice none 0 0), (⟨w.heap.size, 2, none⟩, .slice none 0 0), (⟨w.heap.size, 3, none⟩, .slice none 0 0), (⟨w.heap.size, 4, none⟩, .bool false), (⟨w.heap.size, 5, none⟩, .int .i64 0), (⟨w.heap.size, 6, none⟩, .bool false), (⟨w.heap.size, 7, none⟩, .int .i64 0), (⟨w.heap.size, 8, none⟩, .bool false), (⟨w.heap.size, 9, none⟩, .int .i64 0)] _ g2.out (by simp)) (.cells #[.int .i64 mk, .int .i64 ms, .int .i64 ma, .slice at_ tags.length ct, .slice ab blocks.length cb] 88)
    exact bodyPost_ret (v := .tuple #[.agg #[.int .i64 0, .slice none 0 0, .slice none 0 0, .slice none 0 0, .bool false, .int .i64 0, .bool false, .int .i64 0, .bool false, .int .i64 0], .bool false]) (by simp [results, Tryz.results75, go_sem, z0, z1, z2, z3, z4, z5, z6, z7, z8, z9, lt42]) rfl (.inr ⟨hno.out, rfl, _, kz, gz⟩)
def OneSaid : Prop := ∀ (d : Dsk) (W : World) (br : Nat) (vs vw : Value) (A seq : Int) (r0 : List ByteArray) (w : World), Below W.heap.size W w -> RDisk W (.agg #[vs, vw]) d -> W.heap.size <= br -> sfx d A r0 -> (∀ s ∈ r0, s.size <= 9223372036854775807) -> Blk w br (rdrC vs vw A r0.length) 150 ->
    Calls Tryz.prog 75 #[.pointer (some ⟨br, 0, none⟩), .int .i64 seq] w fun e w' => OneP seq r0 br vs vw A w e w'
section
variable (hOne : OneSaid) (d : Dsk) (W : World) (br : Nat) (vs vw : Value) (A seq : Int) (r0 : List ByteArray) (w : World) (hW : Below W.heap.size W w) (hd : RDisk W (.agg #[vs, vw]) d) (hbr : W.heap.size <= br) (hs0 : sfx d A r0) (hsz : ∀ s ∈ r0, s.size <= 9223372036854775807) (kb : Blk w br (rdrC vs vw A r0.length) 150)
include hOne hW hd hbr hs0 hsz kb
theorem one_some {t : Txn} {r' : List ByteArray} (hp : parseT seq 25 r0 (txn0 seq) = some (t, r')) :
    Calls Tryz.prog 75 #[.pointer (some ⟨br, 0, none⟩), .int .i64 seq] w fun e w' => ∃ v, e = .returned (.tuple #[v, .bool true]) /\ OTxn w.heap.size 63 3 w' v t /\ Blk w' br (rdrC vs vw A r'.length) 150 /\ w.grownBy w' (some br) := by
 refine (hOne d W br vs vw A seq r0 w hW hd hbr hs0 hsz kb).mono fun e w' h => ?_
 rcases h with ⟨t2, r2, h1, h2⟩ | ⟨h1, _⟩
 ·rw [hp] at h1
  simp only [Option.some.injEq, Prod.mk.injEq] at h1
  obtain ⟨rfl, rfl⟩ := h1
  exact h2
 ·rw [hp] at h1; cases h1
theorem one_none (hp : parseT seq 25 r0 (txn0 seq) = none) :
    Calls Tryz.prog 75 #[.pointer (some ⟨br, 0, none⟩), .int .i64 seq] w fun e w' => e = .returned (.tuple #[.agg #[.int .i64 0, .slice none 0 0, .slice none 0 0, .slice none 0 0, .bool false, .int .i64 0, .bool false, .int .i64 0, .bool false, .int .i64 0], .bool false]) /\ ∃ n, Blk w' br (rdrC vs vw A n) 150 /\ w.grownBy w' (some br) := by
 refine (hOne d W br vs vw A seq r0 w hW hd hbr hs0 hsz kb).mono fun e w' h => ?_
 rcases h with ⟨t2, r2, h1, _⟩ | ⟨_, h2⟩
 ·rw [hp] at h1; cases h1
 ·exact h2
end
end Go.Proofs.YtjhmfljlclajnadGreatDoor
