/- The walk of scan.Replay. What the table of types says of slices and their elements; further types. Where the fields of structs lie. The walks of seal's write, Newest, Check. The walks of txn.Get and of in. Rows of elements: what an insertion and a deletion leave. No program in sight. The walks of package slices: Clone, Index, Contains, IndexFunc. Rows of elements: copies onto owned rows, for the walk. No program in sight. The walks of package slices: DeleteFunc. The walk of seal.Newest. The walk of seal.Check. The walk of disk.Crash. -/
import Derived.Test.YtjhmfljlclajnacDoorKRecoverTwice2
import Derived.Test.YtjhmfljlclajnacDoorKRecoverTwice4
import Derived.Test.YtjhmfljlclajnacDoorKRecoverTwice6
import Derived.Test.YtjhmfljlclajnacDoorKRecoverTwice1
import Derived.Test.YtjhmfljlclajnacDoorKRecoverTwice0
import Derived.Test.YtjhmfljlclajnacDoorKRecoverTwice3
import Derived.Lib.SmallJoins
import Derived.Deep.CutBlock
import Derived.Deep.DeepCutAuto
import Derived.Deep.LoopGhost
import Derived.Test.YtjhmfljlclajnacDoorEnc
import Derived.Test.YtjhmfljlclajnacDoorPoke
set_option linter.unusedVariables false
set_option linter.unusedSimpArgs false
namespace Wb
open Go Go.RowKit
theorem IMap.own_ne {w : World} {b : Nat} {f : Int → Option Value} (h : IMap w b f) {α : Type} {g : α → List Value} {base : Nat} {e : TypeId} {c : Nat} {v : Value} {l : List α} (ho : Own g base e c w v l) : some b ≠ v.ownBlock := by
  intro hh
  obtain ⟨cur, hc⟩ := ho.cellsOf hh.symm
  obtain ⟨es, clk, h1, _⟩ := h
  rw [hc] at h1
  cases h1
end Wb
namespace Go.Proofs.YtjhmfljlclajnacDoor
open Go.RowKit Wb
set_option linter.unusedVariables false
set_option linter.unusedSimpArgs false
set_option maxRecDepth 100000
set_option maxHeartbeats 4000000

theorem scan_Replay (l : List Txn) (hg : ∀ t ∈ l, goodT t = true) (v : Value) (w : World) (h : RTxns w v l) :
    Calls Tryd.prog 10 #[v] w fun e w' => ∃ v', e = .returned v' ∧ Wb.Own cpyC w.heap.size 46 2 w' v' (newestL l) ∧ Below w.heap.size w w' := by
  obtain ⟨a, cap, rfl, hl⟩ := h.form
  have hmm := @run_makeMap Tryd.prog
  have hlk := fun (w : World) b f (im : IMap w b f) k => (im.lookup (P := Tryd.prog) Tryd.underlying80 Tryd.underlying3 (e := 3) (z := .int .i64 0) (by kernel_rfl) k).1
  have hlk2 := fun (w : World) b f (im : IMap w b f) k => (im.lookup (P := Tryd.prog) Tryd.underlying81 Tryd.underlying3 (e := 9) (z := .string ⟨#[]⟩) (by kernel_rfl) k).2
  have hup := fun (w : World) b f (im : IMap w b f) k v => im.update (P := Tryd.prog) Tryd.underlying80 Tryd.underlying3 k v
  have hup2 := fun (w : World) b f (im : IMap w b f) k v => im.update (P := Tryd.prog) Tryd.underlying81 Tryd.underlying3 k v
  have hgk := fun k (hk : k < l.length) => hg l[k] (List.getElem_mem hk)
  have hrs := fun k (hk : k < l.length) b => rho_step hk b
  have hrl := fun b => rho_le l l.length b
  have hts := fun r k (hk : k < l.length) b => txF_step hk r b
  have hfin := txF_newest hg
  have hvs := fun k => viewN_succ (newestB l) k
  have hvn := fun k => viewN_len (newestB l) k
  have hnl : newestL l = viewN (newestB l) 12 := rfl
  have hv0 : viewN (newestB l) 0 = [] := rfl
  have hr0 : ∀ b, (none : Option Value) = revV (rho l 0) b := fun b => rfl
  have ht0 : ∀ r b, (none : Option Value) = txtV (txF l r 0) b := fun r b => rfl
  rw [hnl]
  replace h := hid h; replace hlk := hid hlk; replace hlk2 := hid hlk2; replace hup := hid hup; replace hup2 := hid hup2; replace hgk := hid hgk; replace hrs := hid hrs; replace hts := hid hts; replace hfin := hid hfin; replace hvs := hid hvs; replace hvn := hid hvn; replace hv0 := hid hv0; replace hr0 := hid hr0; replace ht0 := hid ht0; replace hrl := hid hrl
  clear hnl hg
  go_enter Tryd.func10, Tryd.ntmps10
  go_wp2
  go_loopw [20] (fun i wr => ∃ k : Nat, k ≤ l.length ∧ i = .int .i64 k ∧ IMap wr w.heap.size (revV (rho l k)) ∧ Below w.heap.size w wr) (fun i _ => l.length - (intOf i).toNat)
  case atStart => exact ⟨0, Nat.zero_le _, rfl, (IMap.made w).congr hr0.out, bal (b0 w) _⟩
  case round =>
    obtain ⟨wo, rfl⟩ : ∃ wo : World, wo = wr := ⟨_, rfl⟩
    obtain ⟨k, hk, rfl, im, nx⟩ := hrel
    by_cases hlt : k < l.length
    · obtain ⟨b1, o1, am, cm, ad, cd, ar, cr, rfl, hrt, c0, c1, c2, c3, c4, c5, c6, c7, c8, c9⟩ := h.out.at3 hlt
      replace c0 := cell_below nx c0; replace c1 := cell_below nx c1; replace c2 := cell_below nx c2; replace c3 := cell_below nx c3; replace c4 := cell_below nx c4; replace c5 := cell_below nx c5; replace c6 := cell_below nx c6; replace c7 := cell_below nx c7; replace c8 := cell_below nx c8; replace c9 := cell_below nx c9
      have hstk := hrs.out k hlt
      generalize l[k] = t at *
      obtain ⟨vm', vd', vr', hv, hm, hd, hr, n1, n2, n3⟩ := hrt
      simp only [txnV, Value.agg.injEq, Array.mk.injEq, List.cons.injEq, and_true, true_and] at hv
      obtain ⟨rfl, rfl, rfl⟩ := hv
      have hj0 : ∀ b, revV (rho l k) b = revV (fun b => if inI (t.rev.take 0) b then k + 1 else rho l k b) b := fun b => rfl
      have hjs := fun j (hj : j < t.rev.length) b => inI_step (l := t.rev) (b := b) hj
      have hjn : ∀ b, revV (fun b => if inI (t.rev.take t.rev.length) b then k + 1 else rho l k b) b = revV (rho l (k + 1)) b := fun b => by
        unfold revV; rw [hstk b, List.take_length]
      generalize rho l k = g at *
      generalize hge : rho l (k + 1) = g' at *
      replace hge := hid hge; replace hr := hid hr; replace hj0 := hid hj0; replace hjs := hid hjs; replace hjn := hid hjn
      clear hstk hm hd
      have hk3 : k ≤ 1099511627744 := by omega
      go_wp2
      go_loopw [7, 28] (fun _ i wr => ∃ j : Nat, j ≤ t.rev.length ∧ i = .int .i64 j ∧ IMap wr w.heap.size (revV (fun b => if inI (t.rev.take j) b then k + 1 else g b)) ∧ Below w.heap.size w wr) (fun _ i _ => t.rev.length - (intOf i).toNat)
      case atStart => exact ⟨0, Nat.zero_le _, rfl, (im.congr hj0.out).alloc _, bal nx _⟩
      case round =>
        clear im nx c0 c1 c2 c3 c4 c5 c6 c7 c8 c9
        obtain ⟨j, hj, rfl, im, nx⟩ := hrel
        by_cases hlt2 : j < t.rev.length
        · obtain ⟨b3, o3, rfl, d0⟩ := RL.at1 (fun x => .int .i64 x) (fun _ => rfl) (hr.out.below nx) hlt2
          have hsj := hjs.out j hlt2
          generalize t.rev[j] = x at *
          obtain ⟨wu, hrun, imu, htu⟩ := hup.out wr _ _ im x (.int .i64 ((k : Int) + 1))
          have hsu := hid (imu.congr (g := revV (fun b => if inI (t.rev.take (j + 1)) b then k + 1 else g b)) (fun b => by
            unfold revV
            simp only [hsj b]
            by_cases hb : b = x
            · have e1 : (x == b) = true := beq_iff_eq.2 hb.symm
              rw [if_pos hb, e1, Bool.or_true]; simp
            · have e1 : (x == b) = false := beq_eq_false_iff_ne.2 (fun hh => hb hh.symm)
              rw [if_neg hb, e1, Bool.or_false]))
          clear imu hsj
          go_wp2
          go_roundw
          case rel => exact ⟨j + 1, by omega, by go_num, hsu.out, htu.below nx (Nat.le_refl _)⟩
          case measure => simp [intOf]; omega
        · obtain rfl : j = t.rev.length := by omega
          have im2 := hid (im.congr hjn.out)
          go_wp2
          go_roundw
          case rel => exact ⟨k + 1, by omega, by go_num, by rw [hge.out]; exact im2.out, nx⟩
          case measure => simp [intOf]; omega
    · obtain rfl : k = l.length := by omega
      have hr2 := hrl.out
      generalize hrr : rho l l.length = r at *
      replace hrr := hid hrr
      replace hr2 := hid hr2
      have imt := (IMap.made wo).congr (ht0.out r)
      have hts := hts.out r
      replace hts := hid hts
      have ltw := im.lt
      have im := im.alloc (.map #[] 0)
      have nx := bal nx (.map #[] 0)
      have hne : w.heap.size ≠ wo.heap.size := by omega
      obtain ⟨B, hB⟩ : ∃ B, wo.heap.size = B := ⟨_, rfl⟩
      rw [hB] at imt ltw hne
      go_wp2
      go_loopw [41] (fun i wr => ∃ k : Nat, k ≤ l.length ∧ i = .int .i64 k ∧ IMap wr w.heap.size (revV r) ∧ IMap wr B (txtV (txF l r k)) ∧ Below w.heap.size w wr) (fun i _ => l.length - (intOf i).toNat)
      case atStart => exact ⟨0, Nat.zero_le _, rfl, im, imt, nx⟩
      case round =>
        clear im imt nx
        obtain ⟨k, hk, rfl, im, imt, nx⟩ := hrel
        by_cases hlt : k < l.length
        · obtain ⟨b1, o1, am, cm, ad, cd, ar, cr, rfl, hrt, c0, c1, c2, c3, c4, c5, c6, c7, c8, c9⟩ := h.out.at3 hlt
          replace c0 := cell_below nx c0; replace c1 := cell_below nx c1; replace c2 := cell_below nx c2; replace c3 := cell_below nx c3; replace c4 := cell_below nx c4; replace c5 := cell_below nx c5; replace c6 := cell_below nx c6; replace c7 := cell_below nx c7; replace c8 := cell_below nx c8; replace c9 := cell_below nx c9
          have hstk := hts.out k hlt
          have hgt := hgk.out k hlt
          generalize l[k] = t at *
          obtain ⟨vm', vd', vr', hv, hm, hd, hr, n1, n2, n3⟩ := hrt
          simp only [txnV, Value.agg.injEq, Array.mk.injEq, List.cons.injEq, and_true, true_and] at hv
          obtain ⟨rfl, rfl, rfl⟩ := hv
          have hj0 : ∀ b, txtV (txF l r k) b = txtV (metaG (txF l r k) r k (t.mt.take 0)) b := fun b => rfl
          have hjs := fun j (hj : j < t.mt.length) b => metaG_step (txF l r k) r k hj b
          have hjn : ∀ b, txtV (metaG (txF l r k) r k (t.mt.take t.mt.length)) b = txtV (txF l r (k + 1)) b := fun b => by
            unfold txtV; rw [hstk b, List.take_length, metaG_good ((goodT_iff t).1 hgt).2.1]
          generalize hge : txF l r (k + 1) = g' at *
          generalize txF l r k = g at *
          replace hge := hid hge; replace hm := hid hm; replace hj0 := hid hj0; replace hjs := hid hjs; replace hjn := hid hjn
          clear hstk hgt hd hr
          go_wp2
          go_loopw [12, 49] (fun _ i wr => ∃ j : Nat, j ≤ t.mt.length ∧ i = .int .i64 j ∧ IMap wr w.heap.size (revV r) ∧ IMap wr B (txtV (metaG g r k (t.mt.take j))) ∧ Below w.heap.size w wr) (fun _ i _ => t.mt.length - (intOf i).toNat)
          case atStart => exact ⟨0, Nat.zero_le _, rfl, im.alloc _, (imt.congr hj0.out).alloc _, bal nx _⟩
          case round =>
            clear im imt nx c0 c1 c2 c3 c4 c5 c6 c7 c8 c9
            obtain ⟨j, hj, rfl, im, imt, nx⟩ := hrel
            by_cases hlt2 : j < t.mt.length
            · obtain ⟨b3, o3, rfl, d0, d1⟩ := RL.at2 (fun x => .int .i64 x.block) (fun x => .string x.text) (fun _ => rfl) (hm.out.below nx) hlt2
              have hsj := hjs.out j hlt2
              generalize t.mt[j] = x at *
              replace im := im.alloc (.cells #[.int .i64 x.block, .string x.text] 46)
              replace imt := imt.alloc (.cells #[.int .i64 x.block, .string x.text] 46)
              have nx' := bal nx (.cells #[.int .i64 x.block, .string x.text] 46)
              have hl1 := hlk.out _ _ _ im x.block
              rw [revV_get] at hl1
              by_cases hrk : r x.block ≤ k
              · obtain ⟨wu, hrun, imu, htu⟩ := hup2.out _ _ _ imt x.block (.string x.text)
                have hsu := hid (imu.congr (g := txtV (metaG g r k (t.mt.take (j + 1)))) (fun b => by
                  unfold txtV
                  rw [hsj b]
                  by_cases hb : b = x.block
                  · rw [if_pos hb, if_pos ⟨hb, by rw [hb]; exact hrk⟩]; rfl
                  · rw [if_neg hb, if_neg (fun hh => hb hh.1)]))
                have imr := hid (htu.imap im hne)
                have nxu := hid (htu.below nx' (by omega))
                clear imu hsj imt im
                go_wp2
                go_roundw
                case rel => exact ⟨j + 1, by omega, by go_num, imr.out, hsu.out, nxu.out⟩
                case measure => simp [intOf]; omega
              · have hsu := hid (imt.congr (g := txtV (metaG g r k (t.mt.take (j + 1)))) (fun b => by
                  unfold txtV
                  rw [hsj b]
                  by_cases hb : b = x.block
                  · rw [if_neg (fun hh => hrk (by rw [← hb]; exact hh.2))]
                  · rw [if_neg (fun hh => hb hh.1)]))
                have hrk2 : k < r x.block := by omega
                clear hsj
                go_wp2
                go_roundw
                case rel => exact ⟨j + 1, by omega, by go_num, im, hsu.out, nx'⟩
                case measure => simp [intOf]; omega
            · obtain rfl : j = t.mt.length := by omega
              have im2 := hid (imt.congr hjn.out)
              go_wp2
              go_roundw
              case rel => exact ⟨k + 1, by omega, by go_num, im, by rw [hge.out]; exact im2.out, nx⟩
              case measure => simp [intOf]; omega
        · obtain rfl : k = l.length := by omega
          replace imt := imt.congr (g := txtV (newestB l)) (fun b => by unfold txtV; rw [hfin.out b])
          clear im hr2 hts hrr hup hup2 hlk hrs hgk hrl hr0 ht0 hfin
          generalize hnb : newestB l = nb at *
          replace hnb := hid hnb
          go_wp2
          go_loopw [13, 66] (fun o i wr => ∃ k : Nat, k ≤ 12 ∧ i = .int .i64 k ∧ Wb.Own cpyC w.heap.size 46 2 wr o (viewN nb k) ∧ IMap wr B (txtV nb) ∧ Below w.heap.size w wr) (fun _ i _ => 12 - (intOf i).toNat)
          case atStart => exact ⟨0, by decide, rfl, by rw [hv0.out]; exact Own.nil _ _ _ _ _, imt, nx⟩
          case round =>
            clear imt nx
            obtain ⟨k, hk, rfl, hown, imt, nx⟩ := hrel
            by_cases hlt : k < 12
            · have hl2 := hlk2.out _ _ _ imt (k : Int)
              rw [txtV_get, txtV_some] at hl2
              have hs := hvs.out k
              have hn := hvn.out k
              generalize hvk : viewN nb (k + 1) = v1 at *
              generalize viewN nb k = v0 at *
              generalize nb (k : Int) = o at *
              replace hvk := hid hvk
              cases o with
              | none =>
                simp only [Option.map_none, Option.toList_none, List.append_nil] at hs
                simp only [Option.getD_none, Option.isSome_none] at hl2
                replace hs := hid hs
                go_wp2
                go_roundw
                case rel => exact ⟨k + 1, by omega, by go_num, by rw [hvk.out, hs.out]; exact hown, imt, nx⟩
                case measure => simp [intOf]; omega
              | some s =>
                simp only [Option.map_some, Option.toList_some] at hs
                simp only [Option.getD_some, Option.isSome_some] at hl2
                replace hs := hid hs
                have hne2 := imt.own_ne hown
                go_wp2_with (at_builtin; go_loud (refine wpList_push rfl _ _ _ rfl w.heap.size _ 2 24 cpyC_flat elemCpy hown rfl ⟨(k : Int), s⟩ rfl rfl (by omega) (by unfold maxLen; omega) nx.size ?_); intro v7 w7 hown7 hbel7 hg7)
                have imt7 := hid (imt.grown hg7 hne2)
                rw [← hs.out] at hown7
                go_wp2
                go_roundw
                case rel => exact ⟨k + 1, by omega, by go_num, by rw [hvk.out]; exact hown7, imt7.out, nx.trans hbel7⟩
                case measure => simp [intOf]; omega
            · obtain rfl : k = 12 := by omega
              go_wp2
              go_ret
              exact ⟨_, rfl, by rw [hnb.out]; exact hown, nx⟩
end Go.Proofs.YtjhmfljlclajnacDoor

namespace Go.Proofs.YtjhmfljlclajnacDoor
open Go.RowKit Wb
instance : SlT Tryd.prog 39 84 3 32 := ⟨Elem.mk' (z := .agg #[.int .i64 0, .int .i64 0, .string ⟨#[]⟩]) Tryd.underlying39 (by kernel_rfl) rfl, by decide, by decide, by decide⟩
instance : SlT Tryd.prog 37 46 2 24 := ⟨Elem.mk' (z := .agg #[.int .i64 0, .string ⟨#[]⟩]) Tryd.underlying37 (by kernel_rfl) rfl, by decide, by decide, by decide⟩
instance : SlT Tryd.prog 50 3 1 8 := ⟨Elem.mk' (z := .int .i64 0) Tryd.underlying50 (by kernel_rfl) rfl, by decide, by decide, by decide⟩
instance : SlT Tryd.prog 22 9 1 16 := ⟨Elem.mk' (z := .string ⟨#[]⟩) Tryd.underlying22 (by kernel_rfl) rfl, by decide, by decide, by decide⟩
instance : SlT Tryd.prog 67 103 2 16 := ⟨Elem.mk' (z := .agg #[.int .i64 0, .bool false]) Tryd.underlying67 (by kernel_rfl) rfl, by decide, by decide, by decide⟩
instance : SlT Tryd.prog 29 55 10 128 := ⟨Elem.mk' (z := .agg #[.int .i64 0, .slice none 0 0, .slice none 0 0, .slice none 0 0, .bool false, .int .i64 0, .bool false, .int .i64 0, .bool false, .int .i64 0]) Tryd.underlying29 (by kernel_rfl) rfl, by decide, by decide, by decide⟩
instance : OneT Tryd.prog 93 := ⟨⟨_, Tryd.underlying93, rfl⟩, by kernel_rfl⟩
instance : ZeroT Tryd.prog 93 [.nilFunc] := ⟨by kernel_rfl⟩
instance : OneT Tryd.prog 94 := ⟨⟨_, Tryd.underlying94, rfl⟩, by kernel_rfl⟩
instance : ZeroT Tryd.prog 94 [.nilFunc] := ⟨by kernel_rfl⟩
end Go.Proofs.YtjhmfljlclajnacDoor

namespace Go.Proofs.YtjhmfljlclajnacDoor
open Go.RowKit Wb
instance : FieldT Tryd.prog 55 0 0 := ⟨fun _ _ _ => by kernel_rfl⟩
instance : FieldT Tryd.prog 55 1 1 := ⟨fun _ _ _ => by kernel_rfl⟩
instance : FieldT Tryd.prog 55 2 2 := ⟨fun _ _ _ => by kernel_rfl⟩
instance : FieldT Tryd.prog 55 3 3 := ⟨fun _ _ _ => by kernel_rfl⟩
instance : FieldT Tryd.prog 55 4 4 := ⟨fun _ _ _ => by kernel_rfl⟩
instance : FieldT Tryd.prog 52 0 0 := ⟨fun _ _ _ => by kernel_rfl⟩
instance : FieldT Tryd.prog 52 1 1 := ⟨fun _ _ _ => by kernel_rfl⟩
instance : FieldT Tryd.prog 46 0 0 := ⟨fun _ _ _ => by kernel_rfl⟩
instance : FieldT Tryd.prog 46 1 1 := ⟨fun _ _ _ => by kernel_rfl⟩
instance : FieldT Tryd.prog 84 0 0 := ⟨fun _ _ _ => by kernel_rfl⟩
instance : FieldT Tryd.prog 84 1 1 := ⟨fun _ _ _ => by kernel_rfl⟩
instance : FieldT Tryd.prog 84 2 2 := ⟨fun _ _ _ => by kernel_rfl⟩
instance : FieldT Tryd.prog 57 0 0 := ⟨fun _ _ _ => by kernel_rfl⟩
instance : FieldT Tryd.prog 57 1 1 := ⟨fun _ _ _ => by kernel_rfl⟩
instance : FieldT Tryd.prog 31 0 0 := ⟨fun _ _ _ => by kernel_rfl⟩
instance : FieldT Tryd.prog 31 1 1 := ⟨fun _ _ _ => by kernel_rfl⟩
instance : FieldT Tryd.prog 31 2 2 := ⟨fun _ _ _ => by kernel_rfl⟩
instance : FieldT Tryd.prog 25 0 0 := ⟨fun _ _ _ => by kernel_rfl⟩
instance : FieldT Tryd.prog 25 1 1 := ⟨fun _ _ _ => by kernel_rfl⟩
instance : FieldT Tryd.prog 66 0 0 := ⟨fun _ _ _ => by kernel_rfl⟩
instance : FieldT Tryd.prog 66 1 1 := ⟨fun _ _ _ => by kernel_rfl⟩
end Go.Proofs.YtjhmfljlclajnacDoor

namespace Go.Proofs.YtjhmfljlclajnacDoor
open Go.RowKit Wb
set_option linter.unusedVariables false
set_option linter.unusedSimpArgs false
set_option maxRecDepth 100000
set_option maxHeartbeats 8000000
theorem seal_write (p : Int) (s : ByteArray) (w : World) :
    Calls Tryd.prog 27 #[.int .i64 p, .string s] w fun e w' => e = .returned (.agg #[.int .i64 1, .int .i64 p, .string s]) ∧ Below w.heap.size w w' := by
  have X := St.start [] w
  go_enter Tryd.func27, Tryd.ntmps27
  go_wp2_with (first
    | (refine at_mem rfl ?_; (first | (refine at_load rfl ?_; (first | (refine c_load1 rfl _ _ rfl rfl X (by repeat (first | exact ReadA.here rfl | apply ReadA.there)) ?_) | (refine c_loadN rfl _ _ rfl rfl X (by repeat (first | exact ReadB.here (Nat.le_of_ble_eq_true rfl) | apply ReadB.there)) ?_))) | (refine at_store rfl ?_; (first | (refine c_store1 rfl _ _ _ rfl rfl (by first | exact EvR.const _ | exact EvR.tmp rfl rfl) X rfl rfl (by repeat (first | exact PutA.here (Nat.le_of_ble_eq_true rfl) | apply PutA.there)) ?_; intro w X2; (try simp only [upd] at X2); replace X := X2; clear X2) | (refine c_storeN rfl _ _ _ rfl rfl rfl X rfl rfl (by repeat (first | exact PutA.here (Nat.le_of_ble_eq_true rfl) | apply PutA.there)) ?_; intro w X2; (try simp only [upd] at X2); replace X := X2; clear X2))) | (refine m_alloc rfl _ rfl X ?_; intro g w X2; (replace X := X2; clear X2)) | (refine m_box rfl _ _ rfl (by first | exact EvR.const _ | exact EvR.tmp rfl rfl) rfl X ?_; intro g w X2; (replace X := X2; clear X2))); (simp only [Act.put, List.setIfInBounds_toArray, List.set_cons_succ, List.set_cons_zero, List.drop_succ_cons, List.drop_zero, List.take_succ_cons, List.take_zero, Nat.reduceAdd])))
  exact m_ret1 rfl (.tmp rfl rfl) X (.head _) rfl rfl ⟨rfl, X.below⟩
end Go.Proofs.YtjhmfljlclajnacDoor

namespace Go.Proofs.YtjhmfljlclajnacDoor
open Go.RowKit Wb
set_option linter.unusedVariables false
set_option linter.unusedSimpArgs false
set_option maxRecDepth 100000
set_option maxHeartbeats 8000000
end Go.Proofs.YtjhmfljlclajnacDoor

namespace Wb
open Go Go.RowKit
set_option linter.unusedVariables false
set_option linter.unusedSimpArgs false
section
variable {α : Type} {f : α → List Value} {base : Nat} {e : TypeId} {c : Nat} {w w' : World} {v : Value} {l : List α}
theorem flat_take (hf : ∀ x, (f x).length = c) : ∀ (l : List α) (i : Nat), i ≤ l.length → (l.flatMap f).take (i * c) = (l.take i).flatMap f
  | l, 0, _ => by simp
  | [], i + 1, h => by simp at h
  | x :: l, i + 1, h => by
    rw [List.flatMap_cons, List.take_succ_cons, List.flatMap_cons, List.take_append, List.take_of_length_le (by rw [hf, Nat.succ_mul]; omega), hf, show (i + 1) * c - c = i * c by rw [Nat.succ_mul]; omega, flat_take hf l i (by simpa using h)]
theorem flat_dropLen (hf : ∀ x, (f x).length = c) (l : List α) (i : Nat) : ((l.drop i).flatMap f).length = (l.length - i) * c := by
  rw [flat_len hf, List.length_drop]
theorem mul_split {n i c : Nat} (h : i ≤ n) : i * c + (n - i) * c = n * c := by rw [← Nat.add_mul]; congr 1; omega
/-- There is room: what stood from i on goes on by one place, then x is written. -/
theorem ins_room (hf : ∀ x, (f x).length = c) (L : List Value) (l : List α) (i cap : Nat) (x : α) (hL : L.length = cap * c) (ht : L.take (l.length * c) = l.flatMap f) (hi : i ≤ l.length) (hc : l.length + 1 ≤ cap) {L1 L2 : List Value}
    (h1 : L1 = L.take ((i + 1) * c) ++ (l.drop i).flatMap f ++ L.drop ((i + 1) * c + ((l.drop i).flatMap f).length)) (h2 : L2 = L1.take (i * c) ++ f x ++ L1.drop (i * c + (f x).length)) :
    L2.length = cap * c ∧ L2.take ((l.length + 1) * c) = (l.take i ++ x :: l.drop i).flatMap f := by
  have hx := hf x
  have hd := flat_dropLen hf l i
  have hm := mul_split (c := c) hi
  have hm2 : (l.length + 1) * c ≤ cap * c := Nat.mul_le_mul_right _ hc
  rw [Nat.succ_mul] at hm2
  have hsucc : (i + 1) * c = i * c + (f x).length := by rw [hx, Nat.succ_mul]
  rw [hsucc] at h1
  subst h1
  rw [seg2 L (i * c) (f x) ((l.drop i).flatMap f) (by rw [hx, hd, hL]; omega)] at h2
  subst h2
  have h3 : L.take (i * c) = (l.take i).flatMap f := by
    rw [← flat_take hf l i hi, ← ht, List.take_take, Nat.min_eq_left (by rw [← hm]; omega)]
  have h4 := flat_len hf (l.take i)
  rw [List.length_take, Nat.min_eq_left hi] at h4
  rw [h3]
  refine ⟨?_, ?_⟩
  · simp only [List.length_append, List.length_drop, h4, hx, hd, hL]
    omega
  · rw [List.flatMap_append, List.flatMap_cons, ← List.append_assoc]
    have h5 : ((l.take i).flatMap f ++ f x ++ (l.drop i).flatMap f).length = (l.length + 1) * c := by
      simp only [List.length_append, h4, hx, hd, Nat.succ_mul]
      omega
    rw [← h5]
    exact List.take_left
/-- There is none: a new row; x is written, then what stood from i on. -/
theorem ins_grow (hf : ∀ x, (f x).length = c) (Z : List Value) (l : List α) (i cap : Nat) (x : α) (hZ : Z.length = (cap - i) * c) (hi : i ≤ l.length) (hc : l.length + 1 ≤ cap) {L L1 L2 : List Value} (h0 : L = (l.take i).flatMap f ++ Z)
    (h1 : L1 = L.take (i * c) ++ f x ++ L.drop (i * c + (f x).length)) (h2 : L2 = L1.take ((i + 1) * c) ++ (l.drop i).flatMap f ++ L1.drop ((i + 1) * c + ((l.drop i).flatMap f).length)) :
    L2.length = cap * c ∧ L2.take ((l.length + 1) * c) = (l.take i ++ x :: l.drop i).flatMap f := by
  have hx := hf x
  have hd := flat_dropLen hf l i
  have hm := mul_split (c := c) hi
  have hm2 : (l.length + 1) * c ≤ cap * c := Nat.mul_le_mul_right _ hc
  rw [Nat.succ_mul] at hm2
  have hm3 := mul_split (c := c) (n := cap) (i := i) (by omega)
  have hsucc : (i + 1) * c = i * c + (f x).length := by rw [hx, Nat.succ_mul]
  have h4 := flat_len hf (l.take i)
  rw [List.length_take, Nat.min_eq_left hi] at h4
  have hL : L.length = cap * c := by rw [h0, List.length_append, h4, hZ]; exact hm3
  rw [hsucc] at h2
  subst h1
  rw [seg3 L (i * c) (f x) ((l.drop i).flatMap f) (by rw [hx, hd, hL]; omega)] at h2
  subst h2
  have h3 : L.take (i * c) = (l.take i).flatMap f := by
    rw [h0, ← h4]
    exact List.take_left
  rw [h3]
  refine ⟨?_, ?_⟩
  · simp only [List.length_append, List.length_drop, h4, hx, hd, hL]
    omega
  · rw [List.flatMap_append, List.flatMap_cons, ← List.append_assoc]
    have h5 : ((l.take i).flatMap f ++ f x ++ (l.drop i).flatMap f).length = (l.length + 1) * c := by
      simp only [List.length_append, h4, hx, hd, Nat.succ_mul]
      omega
    rw [← h5]
    exact List.take_left
/-- The cells of a row from element i on. -/
theorem row_from (hf : ∀ x, (f x).length = c) {g : Nat} {cur : Array Value} (hk : Blk w g cur e) (ht : cur.toList.take (l.length * c) = l.flatMap f) {i : Nat} (hi : i ≤ l.length) :
    ∀ j u, ((l.drop i).flatMap f)[j]? = some u → w.cell? ⟨g, i * c + j, none⟩ = some u := by
  intro j u hj
  have hd := flat_dropLen hf l i
  have hm := mul_split (c := c) hi
  have hlt : j < ((l.drop i).flatMap f).length := (List.getElem?_eq_some_iff.1 hj).1
  have h4 := flat_len hf (l.take i)
  rw [List.length_take, Nat.min_eq_left hi] at h4
  have h5 : (l.flatMap f)[i * c + j]? = some u := by
    conv => lhs; rw [← List.take_append_drop i l]
    rw [List.flatMap_append, List.getElem?_append_right (by omega), h4, Nat.add_sub_cancel_left]
    exact hj
  rw [← ht, List.getElem?_take, if_pos (by omega)] at h5
  rw [hk.cell, ← h5]
  simp
/-- What is cut off behind element i may be written at will. -/
theorem Own.cut {g cap : Nat} (hF : Flat f c) (h : Own f base e c w (.slice (some ⟨g, 0, none⟩) l.length cap) l) {i : Nat} (hi : i ≤ l.length) (zs : List Value) (hz : i * c + zs.length ≤ l.length * c) :
    Own f base e c (w.setCells g (i * c) zs) (.slice (some ⟨g, 0, none⟩) i cap) (l.take i) := by
  obtain ⟨h1, h2⟩ := h
  rcases h2 with ⟨h3, _⟩ | ⟨g', cap', cur, hv, hb, hg, hn, hc, hs, ht⟩
  · exact absurd h3 (by simp)
  · simp only [Value.slice.injEq, Option.some.injEq, Addr.mk.injEq, true_and, and_true] at hv
    obtain ⟨rfl, rfl⟩ := hv
    have hle : l.length * c ≤ cap * c := Nat.mul_le_mul_right _ hn
    have hk := Blk.sets (t := e) zs (i * c) w cur hg (by rw [hs]; omega)
    have hil : (l.take i).length = i := by rw [List.length_take]; omega
    have hm := mul_split (c := c) hi
    have := Own.ofRow (l := l.take i) (cap := cap) hF hb hk (by rw [hil]; omega) hc (by
      simp only [List.size_toArray, List.length_append, List.length_take, List.length_drop, Array.length_toList, hs]
      omega) (by
      rw [hil]
      show ((cur.toList.take (i * c) ++ zs) ++ _).take (i * c) = _
      rw [List.append_assoc, List.take_append_of_le_length (by rw [List.length_take, Array.length_toList, hs]; omega), List.take_take, Nat.min_self, ← flat_take hF.len l i hi, ← ht, List.take_take, Nat.min_eq_left (by omega)])
    rw [hil] at this
    exact this
/-! ### Striking elements out, in place -/
/-- j elements are looked at, i of them kept; the row holds lk. -/
def KeptI (p : α → Bool) (l : List α) (j i : Nat) (lk : List α) : Prop :=
  lk.length = l.length ∧ i = ((l.take j).filter p).length ∧ lk.take i = (l.take j).filter p ∧ lk.drop j = l.drop j
theorem KeptI.le {p : α → Bool} {j i : Nat} {lk : List α} (h : KeptI p l j i lk) : i ≤ j := by
  rw [h.2.1]
  exact Nat.le_trans (List.length_filter_le _ _) (by rw [List.length_take]; exact Nat.min_le_left _ _)
theorem KeptI.get {p : α → Bool} {j i : Nat} {lk : List α} (h : KeptI p l j i lk) (hj : j < l.length) : ∃ hk : j < lk.length, lk[j] = l[j] := by
  have hk : j < lk.length := by rw [h.1]; exact hj
  refine ⟨hk, ?_⟩
  have h1 := congrArg (fun x => x[0]?) h.2.2.2
  simp only [List.getElem?_drop, Nat.add_zero] at h1
  rw [List.getElem?_eq_getElem hk, List.getElem?_eq_getElem hj, Option.some.injEq] at h1
  exact h1
theorem KeptI.keep {p : α → Bool} {j i : Nat} {lk : List α} (h : KeptI p l j i lk) (hj : j < l.length) (hp : p l[j] = true) : KeptI p l (j + 1) (i + 1) (lk.set i l[j]) := by
  have hij := h.le
  obtain ⟨h1, h2, h3, h4⟩ := h
  have h5 : (l.take (j + 1)).filter p = (l.take j).filter p ++ [l[j]] := by rw [List.take_succ_eq_append_getElem hj, List.filter_append, List.filter_cons, if_pos hp, List.filter_nil]
  refine ⟨by simpa using h1, by rw [h5, List.length_append, ← h2]; rfl, ?_, ?_⟩
  · rw [h5, ← h3, List.take_succ_eq_append_getElem (by rw [List.length_set, h1]; omega), List.getElem_set_self]
    congr 1
    rw [List.take_set_of_le (by omega)]
  · rw [List.drop_set_of_lt (by omega), ← List.drop_drop, h4, List.drop_drop]
theorem KeptI.skip {p : α → Bool} {j i : Nat} {lk : List α} (h : KeptI p l j i lk) (hj : j < l.length) (hp : p l[j] = false) : KeptI p l (j + 1) i lk := by
  obtain ⟨h1, h2, h3, h4⟩ := h
  have h5 : (l.take (j + 1)).filter p = (l.take j).filter p := by rw [List.take_succ_eq_append_getElem hj, List.filter_append, List.filter_cons, if_neg (by rw [hp]; simp), List.filter_nil, List.append_nil]
  exact ⟨h1, by rw [h5, ← h2], by rw [h5, ← h3], by rw [← List.drop_drop, h4, List.drop_drop]⟩
theorem KeptI.start {p : α → Bool} {k : Nat} (hk : k < l.length) (h : ∀ i (hi : i < l.length), i < k → p l[i] = true) (hp : p l[k] = false) : KeptI p l (k + 1) k l := by
  have h5 : (l.take k).filter p = l.take k := List.filter_eq_self.2 (fun x hx => by
    obtain ⟨i, hi, rfl⟩ := List.getElem_of_mem hx
    rw [List.length_take] at hi
    rw [List.getElem_take]
    exact h i (by omega) (by omega))
  refine KeptI.skip ⟨rfl, ?_, ?_, rfl⟩ hk hp
  · rw [h5, List.length_take]; omega
  · rw [h5]
theorem KeptI.done {p : α → Bool} {j i : Nat} {lk : List α} (h : KeptI p l j i lk) (hj : l.length ≤ j) : lk.take i = l.filter p ∧ i = (l.filter p).length := by
  obtain ⟨h1, h2, h3, h4⟩ := h
  rw [List.take_of_length_le hj] at h2 h3
  exact ⟨h3, h2⟩
theorem filter_all {p : α → Bool} (h : ∀ i (hi : i < l.length), p l[i] = true) : l.filter p = l := List.filter_eq_self.2 (fun x hx => by
  obtain ⟨i, hi, rfl⟩ := List.getElem_of_mem hx
  exact h i hi)
end
end Wb

namespace Wb
open Go Go.RowKit
/-- The place of the first element of key b, or -1. -/
def idxK {α : Type} (key : α → Int) (l : List α) (b : Int) : Int := match l.findIdx? (fun x => key x == b) with
  | some k => (k : Int)
  | none => -1
section
variable {α : Type} {key : α → Int} {l : List α} {b : Int}
theorem idxK_hit {k : Nat} (hk : k < l.length) (h1 : key l[k] = b) (h2 : ∀ i (hi : i < k), ¬ key l[i] = b) : idxK key l b = k := by
  have : l.findIdx? (fun x => key x == b) = some k := List.findIdx?_eq_some_iff_getElem.2 ⟨hk, by simpa using h1, fun j hj => by simpa using h2 j hj⟩
  unfold idxK; rw [this]
theorem idxK_none (h2 : ∀ i (hi : i < l.length), ¬ key l[i] = b) : idxK key l b = -1 := by
  have : l.findIdx? (fun x => key x == b) = none := List.findIdx?_eq_none_iff.2 (fun x hx => by
    obtain ⟨i, hi, rfl⟩ := List.getElem_of_mem hx
    simpa using h2 i hi)
  unfold idxK; rw [this]
theorem idxK_spec (key : α → Int) (l : List α) (b : Int) : (idxK key l b = -1 ∧ ∀ i (hi : i < l.length), ¬ key l[i] = b) ∨ ∃ k : Nat, idxK key l b = k ∧ ∃ hk : k < l.length, key l[k] = b ∧ ∀ i (hi : i < k), ¬ key l[i] = b := by
  cases e : l.findIdx? (fun x => key x == b) with
  | none =>
    refine .inl ⟨by unfold idxK; rw [e], fun i hi hb => ?_⟩
    have := List.findIdx?_eq_none_iff.1 e _ (List.getElem_mem hi)
    simp [hb] at this
  | some k =>
    obtain ⟨hk, h1, h2⟩ := List.findIdx?_eq_some_iff_getElem.1 e
    exact .inr ⟨k, by unfold idxK; rw [e], hk, by simpa using h1, fun i hi => by simpa using h2 i hi⟩
end
end Wb
namespace Go.Proofs.YtjhmfljlclajnacDoor
open Go.RowKit Wb
set_option linter.unusedVariables false
set_option linter.unusedSimpArgs false
set_option maxRecDepth 100000
set_option maxHeartbeats 8000000
end Go.Proofs.YtjhmfljlclajnacDoor

namespace Wb
open Go Go.RowKit
set_option linter.unusedVariables false
set_option linter.unusedSimpArgs false
section
variable {P : Program} {w : World} {ops : Array Oper} {rest : List Oper} {o : Oper} {a : Act} {Q : Exit → Act → World → Prop}
theorem wpList_copyR (hgd : o.guard = none) (d s : Operand) (t t' : TypeId) (ho : o.op = .call { callee := .builtin .copy, args := #[d, s], argTypes := #[t, t'] }) {v u v' : Value} {w' : World}
    (hr : (Builtin.copy_ #[t, t'] o.type #[v, u]).run P w = .ok v' w') (hd : a.eval d = v) (hs : a.eval s = u) (h : wpList P ops Q rest (a.put o.dst v') w') : wpList P ops Q (o :: rest) a w := by
  refine wpList_plain hgd fun K hK => ?_
  unfold Oper.wp execOp
  simp only [ho, resolve, invoke, builtin, Sem.run_bind, Sem.run_pure, Result.andThen_ok, List.map_toArray, List.map_cons, List.map_nil, hd, hs, hr]
  exact hK _ _ h
theorem wpList_appR (hgd : o.guard = none) (d s : Operand) (t t' : TypeId) (ho : o.op = .call { callee := .builtin .append, args := #[d, s], argTypes := #[t, t'] }) {v u v' : Value} {w' : World}
    (hr : (Builtin.append_ #[t, t'] o.type #[v, u]).run P w = .ok v' w') (hd : a.eval d = v) (hs : a.eval s = u) (h : wpList P ops Q rest (a.put o.dst v') w') : wpList P ops Q (o :: rest) a w := by
  refine wpList_plain hgd fun K hK => ?_
  unfold Oper.wp execOp
  simp only [ho, resolve, invoke, builtin, Sem.run_bind, Sem.run_pure, Result.andThen_ok, List.map_toArray, List.map_cons, List.map_nil, hd, hs, hr]
  exact hK _ _ h
theorem wpList_clearR (hgd : o.guard = none) (s : Operand) (t : TypeId) (ho : o.op = .call { callee := .builtin .clear, args := #[s], argTypes := #[t] }) (u : Value) (hs : a.eval s = u) {v' : Value} {w' : World}
    (hr : (Builtin.clear_ #[t] o.type #[u]).run P w = .ok v' w') (h : wpList P ops Q rest (a.put o.dst v') w') : wpList P ops Q (o :: rest) a w := by
  refine wpList_plain hgd fun K hK => ?_
  unfold Oper.wp execOp
  simp only [ho, resolve, invoke, builtin, Sem.run_bind, Sem.run_pure, Result.andThen_ok, List.map_toArray, List.map_cons, List.map_nil, hs, hr]
  exact hK _ _ h
theorem step_copyR {K : Act → World → Prop} {E : Prop} (hg : o.guard = none) (d s : Operand) (t t' : TypeId) (ho : o.op = .call { callee := .builtin .copy, args := #[d, s], argTypes := #[t, t'] }) {v u v' : Value} {w' : World}
    (hr : (Builtin.copy_ #[t, t'] o.type #[v, u]).run P w = .ok v' w') (hd : a.eval d = v) (hs : a.eval s = u) (hK : K (a.put o.dst v') w') : if Region.wanted o (yielded ops a.tmps) = true then Oper.wp P o a w K Q else E := by
  have hw : Region.wanted o (yielded ops a.tmps) = true := by simp [Region.wanted, hg]
  rw [if_pos hw]
  unfold Oper.wp execOp
  simp only [ho, resolve, invoke, builtin, Sem.run_bind, Sem.run_pure, Result.andThen_ok, List.map_toArray, List.map_cons, List.map_nil, hd, hs, hr]
  exact hK
theorem run_copy_blk {dT elem : TypeId} {c bytes : Nat} (hT : Elem P dT elem c bytes) (w : World) (sT ty : TypeId) {g : Nat} {cur : Array Value} (hk : Blk w g cur elem) (off dLen dCap : Nat) (b soff sLen sCap : Nat) (cs : List Value)
    (hn : cs.length = Nat.min sLen dLen * c) (hsrc : ∀ j v, cs[j]? = some v → w.cell? ⟨b, soff + j, none⟩ = some v) (hfit : off + cs.length ≤ cur.size) (h1 : ∀ v ∈ cs, v.oneCell' = true) :
    (Builtin.copy_ #[dT, sT] ty #[.slice (some ⟨g, off, none⟩) dLen dCap, .slice (some ⟨b, soff, none⟩) sLen sCap]).run P w = .ok (goInt (Nat.min sLen dLen : Nat)) (w.setCells g off cs) := by
  obtain ⟨hu, i, z, hi, hz, hsz, hby, hzs⟩ := hT
  exact run_copy_c w dT sT ty elem c g off dLen dCap ⟨b, soff, none⟩ sLen sCap cs hu (by rw [hi]; simp [hsz]) hn (fun j v hj => by rw [Addr.add_lit]; exact hsrc j v hj) (fun j hj => by rw [hk.cell, Array.getElem?_eq_getElem (by omega)]; rfl) (fun j hj => hk.free _) h1
end
section
variable {α : Type} {f : α → List Value} {base : Nat} {e : TypeId} {c : Nat} {l : List α}
theorem flat_one (hF : Flat f c) (l : List α) : ∀ u ∈ l.flatMap f, u.oneCell' = true := fun u hu => by obtain ⟨x, _, hx⟩ := List.mem_flatMap.1 hu; exact hF.one x u hx
theorem insLen {i : Nat} (x : α) (hi : i ≤ l.length) : (l.take i ++ x :: l.drop i).length = l.length + 1 := by
  rw [List.length_append, List.length_take, List.length_cons, List.length_drop]; omega
theorem ins_shift (hF : Flat f c) {g cap i : Nat} {cur : Array Value} (hbg : base ≤ g) (hmax : cap ≤ maxLen) (hsz : cur.size = cap * c) (htk : cur.toList.take (l.length * c) = l.flatMap f) (hi : i ≤ l.length) (hc : l.length + 1 ≤ cap) (x : α) {w0 : World} (hk : Blk w0 g cur e) :
    ∃ cur1 : Array Value, cur1.size = cap * c ∧ Blk (w0.setCells g ((i + 1) * c) ((l.drop i).flatMap f)) g cur1 e ∧ ∀ w1, Blk w1 g cur1 e → Own f base e c (w1.setCells g (i * c) (f x)) (.slice (some ⟨g, 0, none⟩) (l.length + 1) cap) (l.take i ++ x :: l.drop i) := by
  have hd := flat_dropLen hF.len l i
  have hm := mul_split (c := c) hi
  have hm2 : (l.length + 1) * c ≤ cap * c := Nat.mul_le_mul_right _ hc
  rw [Nat.succ_mul] at hm2
  have b1 := Blk.sets ((l.drop i).flatMap f) ((i + 1) * c) w0 cur hk (by rw [hd, hsz, Nat.succ_mul]; omega)
  have hs1 : (cur.toList.take ((i + 1) * c) ++ (l.drop i).flatMap f ++ cur.toList.drop ((i + 1) * c + ((l.drop i).flatMap f).length)).length = cap * c := by
    simp only [List.length_append, List.length_take, List.length_drop, Array.length_toList, hsz, hd, Nat.succ_mul]
    omega
  refine ⟨_, by simpa using hs1, b1, fun w1 k1 => ?_⟩
  have b2 := Blk.sets (f x) (i * c) w1 _ k1 (by rw [hF.len, List.size_toArray, hs1]; omega)
  obtain ⟨h1, h2⟩ := ins_room hF.len cur.toList l i cap x (by rw [Array.length_toList]; exact hsz) htk hi hc rfl rfl
  have := Own.ofRow (l := l.take i ++ x :: l.drop i) (base := base) hF hbg b2 (by rw [insLen x hi]; exact hc) hmax (by rw [List.size_toArray]; exact h1) (by rw [insLen x hi]; exact h2)
  rw [insLen x hi] at this
  exact this
theorem ins_grown (hF : Flat f c) {g cap i : Nat} {cur : Array Value} (Z : List Value) (hbg : base ≤ g) (hmax : cap ≤ maxLen) (hZ : Z.length = (cap - i) * c) (hcur : cur = ((l.take i).flatMap f ++ Z).toArray) (hi : i ≤ l.length) (hc : l.length + 1 ≤ cap) (x : α) {w0 : World} (hk : Blk w0 g cur e) :
    cur.size = cap * c ∧ ∃ cur1 : Array Value, cur1.size = cap * c ∧ Blk (w0.setCells g (i * c) (f x)) g cur1 e ∧ ∀ w1, Blk w1 g cur1 e → Own f base e c (w1.setCells g ((i + 1) * c) ((l.drop i).flatMap f)) (.slice (some ⟨g, 0, none⟩) (l.length + 1) cap) (l.take i ++ x :: l.drop i) := by
  have hd := flat_dropLen hF.len l i
  have hm := mul_split (c := c) hi
  have hm2 : (l.length + 1) * c ≤ cap * c := Nat.mul_le_mul_right _ hc
  have hm3 := mul_split (c := c) (n := cap) (i := i) (by omega)
  have h4 := flat_len hF.len (l.take i)
  rw [List.length_take, Nat.min_eq_left hi] at h4
  rw [Nat.succ_mul] at hm2
  have hs0 : cur.size = cap * c := by rw [hcur, List.size_toArray, List.length_append, h4, hZ]; exact hm3
  refine ⟨hs0, ?_⟩
  have b1 := Blk.sets (f x) (i * c) w0 cur hk (by rw [hF.len, hs0]; omega)
  have hs1 : (cur.toList.take (i * c) ++ f x ++ cur.toList.drop (i * c + (f x).length)).length = cap * c := by
    simp only [List.length_append, List.length_take, List.length_drop, Array.length_toList, hs0, hF.len]
    omega
  refine ⟨_, by simpa using hs1, b1, fun w1 k1 => ?_⟩
  have b2 := Blk.sets ((l.drop i).flatMap f) ((i + 1) * c) w1 _ k1 (by rw [hd, List.size_toArray, hs1, Nat.succ_mul]; omega)
  obtain ⟨h1, h2⟩ := ins_grow hF.len Z l i cap x hZ hi hc (L := cur.toList) (by rw [hcur]) rfl rfl
  have := Own.ofRow (l := l.take i ++ x :: l.drop i) (base := base) hF hbg b2 (by rw [insLen x hi]; exact hc) hmax (by rw [List.size_toArray]; exact h1) (by rw [insLen x hi]; exact h2)
  rw [insLen x hi] at this
  exact this
/-- append(s[:i], make(.., m)...), no room: a new row. -/
theorem run_app_make {P : Program} {t tn : TypeId} {bytes : Nat} (hF : Flat f c) (hT : Elem P t e c bytes) (htn : P.underlying tn = some (.int .i64)) (w : World) {g cap i m : Nat} {cur : Array Value} (hk : Blk w g cur e) (htk : cur.toList.take (l.length * c) = l.flatMap f) (hi : i ≤ l.length) (hm : 0 < m) (hg : cap < i + m)
    (hroom : (i + m) * bytes ≤ 140737488355328) (h63 : i + m ≤ maxLen) :
    ∃ Z : List Value, Z.length = (grownCap w (i + m) cap e - i) * c ∧ ∀ ty, (Builtin.append_ #[t, tn] ty #[.slice (some ⟨g, 0, none⟩) i cap, .int .i64 m]).run P w =
      .ok (.slice (some ⟨w.heap.size, 0, none⟩) (i + m) (grownCap w (i + m) cap e)) (w.drew.alloc (.cells ((l.take i).flatMap f ++ Z).toArray e)) := by
  obtain ⟨hu, io, z, hio, hz, hsz, hby, hzs⟩ := hT
  have hold : (Builtin.firstCells io.size i (.slice (some ⟨g, 0, none⟩) i cap)).run P w.drew = .ok ((l.take i).flatMap f).toArray w.drew := by
    have h4 := flat_len hF.len (l.take i)
    rw [List.length_take, Nat.min_eq_left hi] at h4
    refine run_firstCells_some w.drew io.size i ⟨g, 0, none⟩ i cap _ (by rw [h4, hsz]) (fun j u hj => ?_)
    have hlt : j < ((l.take i).flatMap f).length := (List.getElem?_eq_some_iff.1 hj).1
    rw [Addr.add_lit, Nat.zero_add]
    have h5 : (l.flatMap f)[j]? = some u := by
      conv => lhs; rw [← List.take_append_drop i l]
      rw [List.flatMap_append, List.getElem?_append_left hlt]
      exact hj
    rw [← htk, List.getElem?_take] at h5
    split at h5
    · show w.cell? _ = _
      rw [hk.cell, ← h5]
      simp
    · cases h5
  have hby' : m * bytes ≤ (i + m) * bytes := Nat.mul_le_mul_right _ (by omega)
  have hr := fun ty => Lib.run_append_grow_zeros w t tn ty e io z .i64 .i64 hu htn hio hz (some ⟨g, 0, none⟩) i cap _ hold m hm (by rw [hsz]; exact hF.pos) hg (by unfold maxLen at h63; omega) (by rw [hby]; omega) (by rw [hby]; exact growslice_fits hg hroom)
  have hge := grownCap_ge w (i + m) cap e
  refine ⟨(Builtin.zeroCells z.cells m).toList ++ (Builtin.zeroCells z.cells (grownCap w (i + m) cap e - (i + m))).toList, ?_, ?_⟩
  · rw [List.length_append, Array.length_toList, Array.length_toList, size_zeroCells, size_zeroCells, hzs, ← Nat.add_mul]
    congr 1
    omega
  · intro ty
    rw [hr]
    congr 3
    apply Array.ext'
    simp [List.append_assoc]
end
end Wb

namespace Go.Proofs.YtjhmfljlclajnacDoor
open Go.RowKit Wb
set_option linter.unusedVariables false
set_option linter.unusedSimpArgs false
set_option maxRecDepth 100000
set_option maxHeartbeats 8000000
end Go.Proofs.YtjhmfljlclajnacDoor

namespace Wb
open Go Go.RowKit
/-- Going backward: what the last one says. -/
theorem back_rev {l : List Txn} (hg : ∀ t ∈ l, goodT t = true) {j : Nat} (hj : j < l.length) {b : Int} (h : inI l[j].rev b = true) : newestB (l.take (j + 1)) b = none := by
  rw [List.take_succ_eq_append_getElem hj, newestB_back]
  have g := hg _ (List.getElem_mem hj)
  have h1 : getC l[j].mt b = none := by
    cases hc : getC l[j].mt b with
    | none => rfl
    | some s =>
      exfalso
      have h2 : hasB l[j].mt b = true := by rw [hasB_get, hc]; rfl
      obtain ⟨c, hc1, hc2⟩ := List.any_eq_true.1 h2
      obtain ⟨k, hk, rfl⟩ := List.mem_iff_getElem.1 hc1
      have := (good_meta g hk).1
      rw [beq_iff_eq.1 hc2, h] at this
      cases this
  rw [h1, h]
  rfl
theorem back_get {l : List Txn} {j : Nat} (hj : j < l.length) {b : Int} {s : ByteArray} (h : getC l[j].mt b = some s) : newestB (l.take (j + 1)) b = some s := by
  rw [List.take_succ_eq_append_getElem hj, newestB_back, h]
theorem back_no {l : List Txn} {j : Nat} (hj : j < l.length) {b : Int} (h1 : inI l[j].rev b = false) (h : getC l[j].mt b = none) : newestB (l.take (j + 1)) b = newestB (l.take j) b := by
  rw [List.take_succ_eq_append_getElem hj, newestB_back, h, h1]
  rfl
theorem viewN_none {f : Int → Option ByteArray} {n : Nat} (h : f n = none) : viewN f (n + 1) = viewN f n := by rw [viewN_succ, h]; simp
theorem viewN_some {f : Int → Option ByteArray} {n : Nat} {s : ByteArray} (h : f n = some s) : viewN f (n + 1) = viewN f n ++ [⟨n, s⟩] := by rw [viewN_succ, h]; rfl
/-- As a row of the call's own. -/
theorem OwnM.own {α : Type} {f : α → List Value} {e : TypeId} {c : Nat} {v : Value} {l : List α} {M L T : List Ent} {w0 w : World} {R : List Rd} (hF : Flat f c) (h : OwnM f e c v l M) (X : St [] w0 w (L ++ (M ++ T)) R) : Own f w0.heap.size e c w v l := by
  rcases h with ⟨rfl, rfl, rfl⟩ | ⟨g, cap, rest, rfl, h1, h2, h3, rfl⟩
  · exact Own.nil _ _ _ _ _
  · have hk := X.blk ⟨g, l.flatMap f ++ rest, e⟩ (by simp)
    have ho := X.own ⟨g, l.flatMap f ++ rest, e⟩ (by simp)
    refine ⟨flat_len hF.len l, .inr ⟨g, cap, _, rfl, ho.resolve_left (fun h => by cases h), hk, h1, h2, ?_, ?_⟩⟩
    · simpa using h3
    · rw [← flat_len hF.len l]; simp
end Wb
namespace Go.Proofs.YtjhmfljlclajnacDoor
open Go.RowKit Wb
set_option linter.unusedVariables false
set_option linter.unusedSimpArgs false
set_option maxRecDepth 100000
set_option maxHeartbeats 8000000
end Go.Proofs.YtjhmfljlclajnacDoor

namespace Wb
open Go Go.RowKit
theorem superM_read (w : World) (q p : Int) : RMark w (.agg #[.int .i64 1, .int .i64 q, .int .i64 p, .slice none 0 0, .slice none 0 0]) (superM q p) :=
  ⟨_, _, rfl, RL.nil _ _, RL.nil _ _, Nat.zero_le _, Nat.zero_le _⟩
theorem checkE_bad {l : List Cpy} {p q : Int} (h : markE (superM q p) ≠ 0) : checkE l p q = markE (superM q p) ∧ checkL l p q = [] := by
  have e : checkE l p q = markE (superM q p) := by unfold checkE; rw [if_pos h]
  exact ⟨e, by unfold checkL; rw [e, if_neg h]⟩
theorem checkE_form {l : List Cpy} {p q : Int} (h : markE (superM q p) = 0) {k : Nat} (hk : k < l.length) (hc : cpyOk l[k] = false) : checkE l p q = 1 ∧ checkL l p q = [] := by
  have hn : ¬ l.all cpyOk = true := fun hh => by
    have := List.all_eq_true.1 hh _ (List.getElem_mem hk)
    rw [hc] at this; cases this
  have e : checkE l p q = 1 := by unfold checkE; rw [if_neg (by rw [h]; decide), if_neg hn]
  exact ⟨e, by unfold checkL; rw [e, if_neg (by decide)]⟩
theorem checkE_ok {l : List Cpy} {p q : Int} (h : markE (superM q p) = 0) (hc : l.all cpyOk = true) : checkE l p q = 0 ∧ checkL l p q = homeS l ++ [wrS 0 (markS (superM q p)), flushS] := by
  have e : checkE l p q = 0 := by unfold checkE; rw [if_neg (by rw [h]; decide), if_pos hc]
  exact ⟨e, by unfold checkL; rw [if_pos e]⟩
theorem all_take {α : Type} {p : α → Bool} {l : List α} {k : Nat} (hk : k < l.length) (h : (l.take k).all p = true) (hc : p l[k] = true) : (l.take (k + 1)).all p = true := by
  rw [List.take_succ_eq_append_getElem hk, List.all_append, h]
  simp [hc]
theorem map_take {α β : Type} {f : α → β} {l : List α} {k : Nat} (hk : k < l.length) : (l.take (k + 1)).map f = (l.take k).map f ++ [f l[k]] := by
  rw [List.take_succ_eq_append_getElem hk, List.map_append]; rfl
theorem room2 {n m : Nat} (h : n = m) (hm : m ≤ 6000000000000) : (n + 2 + (n + 2) / 4 + 192) * 32 ≤ 281474976710656 ∧ n + 2 ≤ 140737488355328 := by subst h; omega
theorem cpyOk_iff (c : Cpy) : cpyOk c = true ↔ (0 ≤ c.block ∧ c.block < 12) ∧ c.text.size = 32 := by
  unfold cpyOk isBlk ok32; simp
end Wb
namespace Go.Proofs.YtjhmfljlclajnacDoor
open Go.RowKit Wb
set_option linter.unusedVariables false
set_option linter.unusedSimpArgs false
set_option maxRecDepth 100000
set_option maxHeartbeats 8000000
theorem seal_Check (l : List Cpy) (p q : Int) (v : Value) (w : World) (h : RL cpyC w v l) (hl : l.length ≤ 5864062014805) (hF : Sl w (flR 0).v 1 (flR 0).cs) :
    Calls Tryd.prog 11 #[v, .int .i64 p, .int .i64 q] w fun e w' => ∃ v', e = .returned (.tuple #[v', .int .i64 (checkE l p q)]) ∧ Wb.Own stpC w.heap.size 84 3 w' v' (checkL l p q) ∧ Below w.heap.size w w' := by
  obtain ⟨a, cap, rfl, _⟩ := h.form
  have hE := fun w => stamp_Encode (superM q p) _ w (superM_read w q p)
  have hW := fun x s w => seal_write x s w
  have X : St [] w w [] [flR 0] := (St.start [] w).addR0 hF
  replace hE := hid hE; replace hW := hid hW
  by_cases hM : markE (superM q p) = 0
  · rw [hM] at hE
    have hbad := fun k (hk : k < l.length) (hc : cpyOk l[k] = false) => checkE_form hM hk hc
    have hok := fun (hc : l.all cpyOk = true) => checkE_ok hM hc
    have hat := fun k (hk : k < l.length) (h : (l.take k).all cpyOk = true) (hc : cpyOk l[k] = true) => all_take hk h hc
    have hmt := fun k (hk : k < l.length) => map_take (f := goS) hk
    have hfu : l.take l.length = l := List.take_length
    have hho : homeS l = l.map goS ++ (if l = [] then [] else [flushS]) := rfl
    have hnil : (l = []) ↔ l.length = 0 := List.length_eq_zero_iff.symm
    rw [hho] at hok
    generalize checkE l p q = E at *
    generalize checkL l p q = C at *
    generalize markS (superM q p) = ms at *
    replace h := hid h; replace hbad := hid hbad; replace hok := hid hok; replace hat := hid hat; replace hmt := hid hmt; replace hfu := hid hfu; replace hnil := hid hnil
    clear hho hM hF
    go_enter Tryd.func11, Tryd.ntmps11
    go_wp2_with (first
      | (go_at_call 24; go_loud ((with_reducible refine (hE.out _).mono ?_); rintro e w1 ⟨rfl, hb1⟩; replace X := X.call hb1; clear hb1)))
    go_loopw [10, 25] (fun o i wr => ∃ (k : Nat) (M : List Ent), k ≤ l.length ∧ i = .int .i64 k ∧ Hid ((l.take k).all cpyOk = true) ∧ OwnM stpC 84 3 o ((l.take k).map goS) M ∧ St [] w wr (M ++ []) [flR 0]) (fun _ i _ => l.length - (intOf i).toNat)
    case atStart => exact ⟨0, [], Nat.zero_le _, rfl, hid rfl, OwnM.nil _ _ _, X⟩
    case round =>
      clear X
      obtain ⟨k, M, hk, rfl, hal, hO, X⟩ := hrel
      have hlk : ((l.take k).map goS).length = k := by rw [List.length_map, List.length_take]; omega
      obtain ⟨ao, co, rfl⟩ := hO.form
      rw [hlk] at hO ⊢
      by_cases hlt : k < l.length
      · obtain ⟨b1, o1, rfl, c0, c1⟩ := RL.at2 (fun x => .int .i64 x.block) (fun x => .string x.text) (fun _ => rfl) (h.out.below X.below) hlt
        have hb := hbad.out k hlt
        have ha := hat.out k hlt hal.out
        have hm := hmt.out k hlt
        generalize l[k] = x at *
        generalize (l.take k).map goS = ls at *
        obtain ⟨xb, xt⟩ := x
        dsimp only at *
        have hci := cpyOk_iff ⟨xb, xt⟩
        dsimp only at hci
        cases hc : cpyOk ⟨xb, xt⟩ with
        | true =>
          obtain ⟨⟨y0, y1⟩, y2⟩ := hci.1 hc
          have ha := ha hc
          replace ha := hid ha; replace hm := hid hm
          have y3 : ((xt.size : Int) != 32) = false := by rw [y2]; rfl
          have d1 : decide (xb < 0) = false := decide_eq_false (by omega)
          have d2 : decide (12 ≤ xb) = false := decide_eq_false (by omega)
          clear hci hc hb
          have hr1 : (ls.length + 1 + (ls.length + 1) / 4 + 192) * 32 ≤ 281474976710656 := by omega
          have hr2 : ls.length + 1 ≤ 140737488355328 := by omega
          have hgo : [goS ⟨xb, xt⟩].flatMap stpC = [.int .i64 1, .int .i64 (25 + xb), .string xt] := rfl
          go_wp2_with (first
            | (refine at_mem rfl ?_; (first | (refine at_load rfl ?_; (first | (refine c_load1 rfl _ _ rfl rfl X (by repeat (first | exact ReadA.here rfl | apply ReadA.there)) ?_) | (refine c_loadN rfl _ _ rfl rfl X (by repeat (first | exact ReadB.here (Nat.le_of_ble_eq_true rfl) | apply ReadB.there)) ?_))) | (refine at_store rfl ?_; (first | (refine c_store1 rfl _ _ _ rfl rfl (by first | exact EvR.const _ | exact EvR.tmp rfl rfl) X rfl rfl (by repeat (first | exact PutA.here (Nat.le_of_ble_eq_true rfl) | apply PutA.there)) ?_; intro w X2; (try simp only [upd] at X2); replace X := X2; clear X2) | (refine c_storeN rfl _ _ _ rfl rfl rfl X rfl rfl (by repeat (first | exact PutA.here (Nat.le_of_ble_eq_true rfl) | apply PutA.there)) ?_; intro w X2; (try simp only [upd] at X2); replace X := X2; clear X2))) | (refine m_alloc rfl _ rfl X ?_; intro g w X2; (replace X := X2; clear X2)) | (refine m_box rfl _ _ rfl (by first | exact EvR.const _ | exact EvR.tmp rfl rfl) rfl X ?_; intro g w X2; (replace X := X2; clear X2))); (simp only [Act.put, List.setIfInBounds_toArray, List.set_cons_succ, List.set_cons_zero, List.drop_succ_cons, List.drop_zero, List.take_succ_cons, List.take_zero, Nat.reduceAdd]))
            | (go_at_call 27; go_loud ((with_reducible refine (hW.out _ _ _).mono ?_); rintro e w1 ⟨rfl, hb1⟩; replace X := X.call hb1; clear hb1))
            | (refine at_build rfl ?_; go_loud (refine m_build1 rfl rfl (by first | exact EvR.const _ | exact EvR.tmp rfl rfl) (by rfl) (by rfl) X ?_; intro g w2 X2; replace X := X2; clear X2; (simp only [Act.put, List.setIfInBounds_toArray, List.set_cons_succ, List.set_cons_zero, List.drop_succ_cons, List.drop_zero, List.take_succ_cons, List.take_zero, Nat.reduceAdd])))
            | (at_builtin; go_loud ((refine m_appB (M := M) (T := []) (n := 1) [_] rfl rfl [goS ⟨xb, xt⟩] stpC_flat X hO (by first | exact EvR.const _ | exact EvR.tmp rfl rfl) (by first | exact EvR.const _ | exact EvR.tmp rfl rfl) hgo rfl hr1 hr2 ?_); intro a2 c2 w2 M2 hO2 X2; (simp only [Act.put, List.setIfInBounds_toArray, List.set_cons_succ, List.set_cons_zero, List.drop_succ_cons, List.drop_zero, List.take_succ_cons, List.take_zero, Nat.reduceAdd]))))
          rw [hlk]
          go_roundw
          case rel => exact ⟨k + 1, M2, by omega, by go_num, ha, by rw [hm.out, ← hlk]; exact hO2, X2.tail⟩
          case measure => simp [intOf]; omega
        | false =>
          obtain ⟨e1, e2⟩ := hb hc
          subst e1 e2
          have hn : ¬ ((0 ≤ xb ∧ xb < 12) ∧ xt.size = 32) := fun h => by rw [hci.2 h] at hc; cases hc
          clear hci hc hb ha hm
          by_cases z1 : xb < 0
          · have d1 : decide (xb < 0) = true := decide_eq_true z1
            go_wp2_with (first
              | (refine at_mem rfl ?_; (first | (refine at_load rfl ?_; (first | (refine c_load1 rfl _ _ rfl rfl X (by repeat (first | exact ReadA.here rfl | apply ReadA.there)) ?_) | (refine c_loadN rfl _ _ rfl rfl X (by repeat (first | exact ReadB.here (Nat.le_of_ble_eq_true rfl) | apply ReadB.there)) ?_))) | (refine at_store rfl ?_; (first | (refine c_store1 rfl _ _ _ rfl rfl (by first | exact EvR.const _ | exact EvR.tmp rfl rfl) X rfl rfl (by repeat (first | exact PutA.here (Nat.le_of_ble_eq_true rfl) | apply PutA.there)) ?_; intro w X2; (try simp only [upd] at X2); replace X := X2; clear X2) | (refine c_storeN rfl _ _ _ rfl rfl rfl X rfl rfl (by repeat (first | exact PutA.here (Nat.le_of_ble_eq_true rfl) | apply PutA.there)) ?_; intro w X2; (try simp only [upd] at X2); replace X := X2; clear X2))) | (refine m_alloc rfl _ rfl X ?_; intro g w X2; (replace X := X2; clear X2)) | (refine m_box rfl _ _ rfl (by first | exact EvR.const _ | exact EvR.tmp rfl rfl) rfl X ?_; intro g w X2; (replace X := X2; clear X2))); (simp only [Act.put, List.setIfInBounds_toArray, List.set_cons_succ, List.set_cons_zero, List.drop_succ_cons, List.drop_zero, List.take_succ_cons, List.take_zero, Nat.reduceAdd])))
            go_ret2
            exact ⟨_, rfl, Own.nil _ _ _ _ _, X.below⟩
          · have d1 : decide (xb < 0) = false := decide_eq_false z1
            by_cases z2 : 12 ≤ xb
            · have d2 : decide (12 ≤ xb) = true := decide_eq_true z2
              go_wp2_with (first
                | (refine at_mem rfl ?_; (first | (refine at_load rfl ?_; (first | (refine c_load1 rfl _ _ rfl rfl X (by repeat (first | exact ReadA.here rfl | apply ReadA.there)) ?_) | (refine c_loadN rfl _ _ rfl rfl X (by repeat (first | exact ReadB.here (Nat.le_of_ble_eq_true rfl) | apply ReadB.there)) ?_))) | (refine at_store rfl ?_; (first | (refine c_store1 rfl _ _ _ rfl rfl (by first | exact EvR.const _ | exact EvR.tmp rfl rfl) X rfl rfl (by repeat (first | exact PutA.here (Nat.le_of_ble_eq_true rfl) | apply PutA.there)) ?_; intro w X2; (try simp only [upd] at X2); replace X := X2; clear X2) | (refine c_storeN rfl _ _ _ rfl rfl rfl X rfl rfl (by repeat (first | exact PutA.here (Nat.le_of_ble_eq_true rfl) | apply PutA.there)) ?_; intro w X2; (try simp only [upd] at X2); replace X := X2; clear X2))) | (refine m_alloc rfl _ rfl X ?_; intro g w X2; (replace X := X2; clear X2)) | (refine m_box rfl _ _ rfl (by first | exact EvR.const _ | exact EvR.tmp rfl rfl) rfl X ?_; intro g w X2; (replace X := X2; clear X2))); (simp only [Act.put, List.setIfInBounds_toArray, List.set_cons_succ, List.set_cons_zero, List.drop_succ_cons, List.drop_zero, List.take_succ_cons, List.take_zero, Nat.reduceAdd])))
              go_ret2
              exact ⟨_, rfl, Own.nil _ _ _ _ _, X.below⟩
            · have d2 : decide (12 ≤ xb) = false := decide_eq_false z2
              have y3 : ((xt.size : Int) != 32) = true := bne_iff_ne.2 (fun h => hn ⟨by omega, by omega⟩)
              clear hn
              go_wp2_with (first
                | (refine at_mem rfl ?_; (first | (refine at_load rfl ?_; (first | (refine c_load1 rfl _ _ rfl rfl X (by repeat (first | exact ReadA.here rfl | apply ReadA.there)) ?_) | (refine c_loadN rfl _ _ rfl rfl X (by repeat (first | exact ReadB.here (Nat.le_of_ble_eq_true rfl) | apply ReadB.there)) ?_))) | (refine at_store rfl ?_; (first | (refine c_store1 rfl _ _ _ rfl rfl (by first | exact EvR.const _ | exact EvR.tmp rfl rfl) X rfl rfl (by repeat (first | exact PutA.here (Nat.le_of_ble_eq_true rfl) | apply PutA.there)) ?_; intro w X2; (try simp only [upd] at X2); replace X := X2; clear X2) | (refine c_storeN rfl _ _ _ rfl rfl rfl X rfl rfl (by repeat (first | exact PutA.here (Nat.le_of_ble_eq_true rfl) | apply PutA.there)) ?_; intro w X2; (try simp only [upd] at X2); replace X := X2; clear X2))) | (refine m_alloc rfl _ rfl X ?_; intro g w X2; (replace X := X2; clear X2)) | (refine m_box rfl _ _ rfl (by first | exact EvR.const _ | exact EvR.tmp rfl rfl) rfl X ?_; intro g w X2; (replace X := X2; clear X2))); (simp only [Act.put, List.setIfInBounds_toArray, List.set_cons_succ, List.set_cons_zero, List.drop_succ_cons, List.drop_zero, List.take_succ_cons, List.take_zero, Nat.reduceAdd])))
              go_ret2
              exact ⟨_, rfl, Own.nil _ _ _ _ _, X.below⟩
      · have hkl : k = l.length := by omega
        have hts : l.take k = l := by rw [hkl, List.take_length]
        obtain ⟨e1, e2⟩ := hok.out (by rw [← hts]; exact hal.out)
        have e3 : C = (l.take k).map goS ++ (if k = 0 then [] else [flushS]) ++ [wrS 0 ms, flushS] := by
          rw [e2, hts]
          by_cases hz : l = []
          · rw [if_pos hz, if_pos (by rw [hkl]; exact hnil.out.1 hz)]
          · rw [if_neg hz, if_neg (fun h => hz (hnil.out.2 (by omega)))]
        clear hal hbad hok hat hmt e2 hts hnil hfu
        generalize (l.take k).map goS = ls at *
        have hfl : [wrS 0 ms, flushS].flatMap stpC = [.int .i64 1, .int .i64 0, .string ms, .int .i64 2, .int .i64 0, .string ⟨#[]⟩] := rfl
        have hli : ((k : Int) < (l.length : Int)) = False := eq_false (by omega)
        by_cases hz : k = 0
        · rw [if_pos hz] at e3
          have hzi : decide (0 < k) = false := decide_eq_false (by omega)
          have hr3 : (ls.length + 2 + (ls.length + 2) / 4 + 192) * 32 ≤ 281474976710656 := by omega
          have hr4 : ls.length + 2 ≤ 140737488355328 := by omega
          clear hz
          replace e3 := hid e3
          replace hkl := hid hkl
          go_wp2
          (refine q_start 0 [] [2, 4, 5] [3] [0, 1, 3, 2, 4, 5, 6, 7] X (by kernel_rfl) (by kernel_rfl) (fun _ _ _ _ _ h => h) ?_; intro hQ X2 hL; replace X := X2; clear X2; simp only [List.take_succ_cons, List.take_zero] at hL; simp only [List.take_succ_cons, List.take_zero])
          (refine q_move rfl rfl (by first | exact EvR.const _ | exact EvR.tmp rfl rfl) rfl rfl hQ ?_; (simp only [Act.put, List.setIfInBounds_toArray, List.set_cons_succ, List.set_cons_zero, List.drop_succ_cons, List.drop_zero, List.take_succ_cons, List.take_zero, Nat.reduceAdd]))
          (refine q_move rfl rfl (by first | exact EvR.const _ | exact EvR.tmp rfl rfl) rfl rfl hQ ?_; (simp only [Act.put, List.setIfInBounds_toArray, List.set_cons_succ, List.set_cons_zero, List.drop_succ_cons, List.drop_zero, List.take_succ_cons, List.take_zero, Nat.reduceAdd]))
          (refine q_rd0 rfl rfl rfl (by repeat (first | exact .head _ | apply List.Mem.tail)) (by rfl) rfl rfl X hL hQ ?_; (simp only [Act.put, List.setIfInBounds_toArray, List.set_cons_succ, List.set_cons_zero, List.drop_succ_cons, List.drop_zero, List.take_succ_cons, List.take_zero, Nat.reduceAdd]))
          (refine q_call 27 _ _ rfl rfl _ rfl ⟨_, _, Tryd.func27, by kernel_rfl, rfl⟩ rfl rfl (hW.out _ _ _) ?_; rintro e w1 ⟨rfl, hb1⟩; replace X := X.call hb1; clear hb1; (have hL2 := X.und (by first | exact hL | exact hL.up | exact hL.up3 | exact hL.up.up); replace hL := hL2; clear hL2); refine ⟨_, rfl, fun _ _ => X.keeps hL, ?_⟩; (simp only [Act.put, List.setIfInBounds_toArray, List.set_cons_succ, List.set_cons_zero, List.drop_succ_cons, List.drop_zero, List.take_succ_cons, List.take_zero, Nat.reduceAdd]))
          (refine q_build2 rfl rfl (by first | exact EvR.const _ | exact EvR.tmp rfl rfl) (by first | exact EvR.const _ | exact EvR.tmp rfl rfl) (by rfl) (by rfl) (by rfl) (by rfl) X hL rfl rfl ?_; intro g w X2 hL2; (try simp only [List.cons_append, List.nil_append] at X2 hL2); replace X := X2; replace hL := hL2; clear X2 hL2; (simp only [Act.put, List.setIfInBounds_toArray, List.set_cons_succ, List.set_cons_zero, List.drop_succ_cons, List.drop_zero, List.take_succ_cons, List.take_zero, Nat.reduceAdd]))
          (refine q_appB (M := M) (T := []) (n := 2) [] rfl rfl [wrS 0 ms, flushS] stpC_flat X hO (by first | exact EvR.const _ | exact EvR.tmp rfl rfl) (by first | exact EvR.const _ | exact EvR.tmp rfl rfl) hfl rfl hr3 hr4 hL (List.nil_sublist _) rfl rfl ?_; intro a3 c3 w3 M3 hO3 X3 hL3; replace X := X3; replace hL := hL3; clear X3 hL3; (simp only [Act.put, List.setIfInBounds_toArray, List.set_cons_succ, List.set_cons_zero, List.drop_succ_cons, List.drop_zero, List.take_succ_cons, List.take_zero, Nat.reduceAdd]))
          (refine q_assign rfl rfl (by first | exact EvR.const _ | exact EvR.tmp rfl rfl) rfl rfl hQ ?_; (simp only [Act.put, List.setIfInBounds_toArray, List.set_cons_succ, List.set_cons_zero, List.drop_succ_cons, List.drop_zero, List.take_succ_cons, List.take_zero, Nat.reduceAdd]))
          (refine q_assign rfl rfl (by first | exact EvR.const _ | exact EvR.tmp rfl rfl) rfl rfl hQ ?_; (simp only [Act.put, List.setIfInBounds_toArray, List.set_cons_succ, List.set_cons_zero, List.drop_succ_cons, List.drop_zero, List.take_succ_cons, List.take_zero, Nat.reduceAdd]))
          refine q_nil ?_
          go_wp2
          go_ret2
          subst e1
          exact ⟨_, rfl, by rw [e3.out, List.append_nil]; exact hO3.own (L := []) stpC_flat X, X.below⟩
        · rw [if_neg hz] at e3
          have hzi : decide (0 < k) = true := decide_eq_true (by omega)
          have hr1 : (ls.length + 1 + (ls.length + 1) / 4 + 192) * 32 ≤ 281474976710656 := by omega
          have hr2 : ls.length + 1 ≤ 140737488355328 := by omega
          have hlf : (ls ++ [flushS]).length = k + 1 := by rw [List.length_append, hlk]; rfl
          obtain ⟨hr3, hr4⟩ := room2 hlf (by omega)
          have hgo : [flushS].flatMap stpC = [.int .i64 2, .int .i64 0, .string ⟨#[]⟩] := rfl
          clear hz hlf
          replace e3 := hid e3
          replace hkl := hid hkl
          go_wp2_with (first
            | (refine at_mem rfl ?_; refine m_rd0 rfl rfl rfl X (by repeat (first | exact .head _ | apply List.Mem.tail)) (by rfl) ?_; (simp only [Act.put, List.setIfInBounds_toArray, List.set_cons_succ, List.set_cons_zero, List.drop_succ_cons, List.drop_zero, List.take_succ_cons, List.take_zero, Nat.reduceAdd]))
            | (refine at_build rfl ?_; go_loud (refine m_build1 rfl rfl (by first | exact EvR.const _ | exact EvR.tmp rfl rfl) (by rfl) (by rfl) X ?_; intro g w2 X2; replace X := X2; clear X2; (simp only [Act.put, List.setIfInBounds_toArray, List.set_cons_succ, List.set_cons_zero, List.drop_succ_cons, List.drop_zero, List.take_succ_cons, List.take_zero, Nat.reduceAdd])))
            | (at_builtin; go_loud ((refine m_appB (M := M) (T := []) (n := 1) [] rfl rfl [flushS] stpC_flat X hO (by first | exact EvR.const _ | exact EvR.tmp rfl rfl) (by first | exact EvR.const _ | exact EvR.tmp rfl rfl) hgo rfl hr1 hr2 ?_); intro a2 c2 w2 M2 hO2 X2; replace X := X2; clear X2; (simp only [Act.put, List.setIfInBounds_toArray, List.set_cons_succ, List.set_cons_zero, List.drop_succ_cons, List.drop_zero, List.take_succ_cons, List.take_zero, Nat.reduceAdd]))))
          (refine q_start 0 [] [2, 4, 5] [3] [0, 1, 3, 2, 4, 5, 6, 7] X (by kernel_rfl) (by kernel_rfl) (fun _ _ _ _ _ h => h) ?_; intro hQ X2 hL; replace X := X2; clear X2; simp only [List.take_succ_cons, List.take_zero] at hL; simp only [List.take_succ_cons, List.take_zero])
          (refine q_move rfl rfl (by first | exact EvR.const _ | exact EvR.tmp rfl rfl) rfl rfl hQ ?_; (simp only [Act.put, List.setIfInBounds_toArray, List.set_cons_succ, List.set_cons_zero, List.drop_succ_cons, List.drop_zero, List.take_succ_cons, List.take_zero, Nat.reduceAdd]))
          (refine q_move rfl rfl (by first | exact EvR.const _ | exact EvR.tmp rfl rfl) rfl rfl hQ ?_; (simp only [Act.put, List.setIfInBounds_toArray, List.set_cons_succ, List.set_cons_zero, List.drop_succ_cons, List.drop_zero, List.take_succ_cons, List.take_zero, Nat.reduceAdd]))
          (refine q_rd0 rfl rfl rfl (by repeat (first | exact .head _ | apply List.Mem.tail)) (by rfl) rfl rfl X hL hQ ?_; (simp only [Act.put, List.setIfInBounds_toArray, List.set_cons_succ, List.set_cons_zero, List.drop_succ_cons, List.drop_zero, List.take_succ_cons, List.take_zero, Nat.reduceAdd]))
          (refine q_call 27 _ _ rfl rfl _ rfl ⟨_, _, Tryd.func27, by kernel_rfl, rfl⟩ rfl rfl (hW.out _ _ _) ?_; rintro e w1 ⟨rfl, hb1⟩; replace X := X.call hb1; clear hb1; (have hL2 := X.und (by first | exact hL | exact hL.up | exact hL.up3 | exact hL.up.up); replace hL := hL2; clear hL2); refine ⟨_, rfl, fun _ _ => X.keeps hL, ?_⟩; (simp only [Act.put, List.setIfInBounds_toArray, List.set_cons_succ, List.set_cons_zero, List.drop_succ_cons, List.drop_zero, List.take_succ_cons, List.take_zero, Nat.reduceAdd]))
          (refine q_build2 rfl rfl (by first | exact EvR.const _ | exact EvR.tmp rfl rfl) (by first | exact EvR.const _ | exact EvR.tmp rfl rfl) (by rfl) (by rfl) (by rfl) (by rfl) X hL rfl rfl ?_; intro g w X2 hL2; (try simp only [List.cons_append, List.nil_append] at X2 hL2); replace X := X2; replace hL := hL2; clear X2 hL2; (simp only [Act.put, List.setIfInBounds_toArray, List.set_cons_succ, List.set_cons_zero, List.drop_succ_cons, List.drop_zero, List.take_succ_cons, List.take_zero, Nat.reduceAdd]))
          (refine q_appB (M := M2) (T := []) (n := 2) [] rfl rfl [wrS 0 ms, flushS] stpC_flat X hO2 (by first | exact EvR.const _ | exact EvR.tmp rfl rfl) (by first | exact EvR.const _ | exact EvR.tmp rfl rfl) hfl rfl hr3 hr4 hL (List.nil_sublist _) rfl rfl ?_; intro a3 c3 w3 M3 hO3 X3 hL3; replace X := X3; replace hL := hL3; clear X3 hL3; (simp only [Act.put, List.setIfInBounds_toArray, List.set_cons_succ, List.set_cons_zero, List.drop_succ_cons, List.drop_zero, List.take_succ_cons, List.take_zero, Nat.reduceAdd]))
          (refine q_assign rfl rfl (by first | exact EvR.const _ | exact EvR.tmp rfl rfl) rfl rfl hQ ?_; (simp only [Act.put, List.setIfInBounds_toArray, List.set_cons_succ, List.set_cons_zero, List.drop_succ_cons, List.drop_zero, List.take_succ_cons, List.take_zero, Nat.reduceAdd]))
          (refine q_assign rfl rfl (by first | exact EvR.const _ | exact EvR.tmp rfl rfl) rfl rfl hQ ?_; (simp only [Act.put, List.setIfInBounds_toArray, List.set_cons_succ, List.set_cons_zero, List.drop_succ_cons, List.drop_zero, List.take_succ_cons, List.take_zero, Nat.reduceAdd]))
          refine q_nil ?_
          go_wp2
          go_ret2
          subst e1
          exact ⟨_, rfl, by rw [e3.out]; exact hO3.own (L := []) stpC_flat X, X.below⟩
  · obtain ⟨e1, e2⟩ := checkE_bad (l := l) hM
    rw [e1, e2]
    generalize markE (superM q p) = E at *
    have hne : (E != 0) = true := bne_iff_ne.2 hM
    clear hF h
    go_enter Tryd.func11, Tryd.ntmps11
    go_wp2_with (first
      | (go_at_call 24; go_loud ((with_reducible refine (hE.out _).mono ?_); rintro e w1 ⟨rfl, hb1⟩; replace X := X.call hb1; clear hb1)))
    go_ret2
    exact ⟨_, rfl, Own.nil _ _ _ _ _, X.below⟩
end Go.Proofs.YtjhmfljlclajnacDoor

namespace Go.Proofs.YtjhmfljlclajnacDoor
open Go.RowKit Wb
set_option linter.unusedVariables false
set_option linter.unusedSimpArgs false
set_option maxRecDepth 100000
set_option maxHeartbeats 2000000

theorem disk_Crash_bad (d : Dsk) (draw : Int) (v : Value) (w : World) (hd : RDisk w v d) (h : ¬ (goodD d = true ∧ 0 ≤ draw)) :
    Calls Tryd.prog 13 #[v, .int .i64 draw] w fun e w' => ∃ v', e = .returned (.tuple #[v', .int .i64 (crashE d draw)]) ∧ RDisk w' v' (crashD d draw) ∧ NewD w.heap.size w' v v' d (crashD d draw) ∧ Below w.heap.size w w' := by
  have hG := fun w (hh : RDisk w v d) => disk_Good d v w hh
  have hd2 := hd
  obtain ⟨vs, vw, rfl, hs, hw, n1, n2⟩ := hd
  obtain ⟨a, cap, rfl, ca1, ca2⟩ := hs.form
  obtain ⟨b, bcap, rfl, cb1, cb2⟩ := hw.form
  have he : crashE d draw = 2 := by unfold crashE; rw [if_neg h]
  have hv : crashD d draw = d := by unfold crashD; rw [if_neg h]
  rw [hv, he]
  clear he hv hs hw
  replace hd2 := hid hd2
  by_cases hg : goodD d = true
  · have hneg : draw < 0 := Int.not_le.1 (fun hh => h ⟨hg, hh⟩)
    rw [hg] at hG
    clear hg h
    replace hG := hid hG
    go_enter Tryd.func13, Tryd.ntmps13
    go_wp2_with (go_at_call 20; refine (hG.out _ (hd2.out.below (by repeat (first | exact Below.refl _ _ | with_reducible assumption | (refine allocB ?_ (by first | omega | (simp; done) | (simp; omega)) _) | (refine Below.setCell ?_ (by first | omega | (simp; done) | (simp; omega)) _) | refine Below.drew ?_ | (refine Below.trans ?_ (Below.mono (by with_reducible assumption) (by first | omega | (simp; done) | (simp; omega)))))))).mono ?_; rintro e w1 ⟨rfl, hb1⟩; obtain ⟨hbc, hbf⟩ := bcell hb1; have hbz := hb1.size; try simp only [World.size_alloc, World.size_setCell, World.size_drew] at hbz; have hz0 := Nat.lt_of_lt_of_le (n := w.heap.size) (by omega) hbz; have hz1 := Nat.lt_of_lt_of_le (n := w.heap.size + 1) (by omega) hbz)
    exact bodyPost_ret (v := .tuple #[.agg #[.slice a d.safe.length cap, .slice b d.writes.length bcap], .int .i64 2]) (by simp [results, Tryd.results13, go_sem, hbc]) rfl ⟨_, rfl, hd2.out.below (by repeat (first | exact Below.refl _ _ | with_reducible assumption | (refine allocB ?_ (by first | omega | (simp; done) | (simp; omega)) _) | (refine Below.setCell ?_ (by first | omega | (simp; done) | (simp; omega)) _) | refine Below.drew ?_ | (refine Below.trans ?_ (Below.mono (by with_reducible assumption) (by first | omega | (simp; done) | (simp; omega)))))), hd2.out.same _, by repeat (first | exact Below.refl _ _ | with_reducible assumption | (refine allocB ?_ (by first | omega | (simp; done) | (simp; omega)) _) | (refine Below.setCell ?_ (by first | omega | (simp; done) | (simp; omega)) _) | refine Below.drew ?_ | (refine Below.trans ?_ (Below.mono (by with_reducible assumption) (by first | omega | (simp; done) | (simp; omega)))))⟩
  · rw [Bool.not_eq_true _ |>.mp hg] at hG
    clear hg h
    replace hG := hid hG
    go_enter Tryd.func13, Tryd.ntmps13
    go_wp2_with (go_at_call 20; refine (hG.out _ (hd2.out.below (by repeat (first | exact Below.refl _ _ | with_reducible assumption | (refine allocB ?_ (by first | omega | (simp; done) | (simp; omega)) _) | (refine Below.setCell ?_ (by first | omega | (simp; done) | (simp; omega)) _) | refine Below.drew ?_ | (refine Below.trans ?_ (Below.mono (by with_reducible assumption) (by first | omega | (simp; done) | (simp; omega)))))))).mono ?_; rintro e w1 ⟨rfl, hb1⟩; obtain ⟨hbc, hbf⟩ := bcell hb1; have hbz := hb1.size; try simp only [World.size_alloc, World.size_setCell, World.size_drew] at hbz; have hz0 := Nat.lt_of_lt_of_le (n := w.heap.size) (by omega) hbz; have hz1 := Nat.lt_of_lt_of_le (n := w.heap.size + 1) (by omega) hbz)
    exact bodyPost_ret (v := .tuple #[.agg #[.slice a d.safe.length cap, .slice b d.writes.length bcap], .int .i64 2]) (by simp [results, Tryd.results13, go_sem, hbc]) rfl ⟨_, rfl, hd2.out.below (by repeat (first | exact Below.refl _ _ | with_reducible assumption | (refine allocB ?_ (by first | omega | (simp; done) | (simp; omega)) _) | (refine Below.setCell ?_ (by first | omega | (simp; done) | (simp; omega)) _) | refine Below.drew ?_ | (refine Below.trans ?_ (Below.mono (by with_reducible assumption) (by first | omega | (simp; done) | (simp; omega)))))), hd2.out.same _, by repeat (first | exact Below.refl _ _ | with_reducible assumption | (refine allocB ?_ (by first | omega | (simp; done) | (simp; omega)) _) | (refine Below.setCell ?_ (by first | omega | (simp; done) | (simp; omega)) _) | refine Below.drew ?_ | (refine Below.trans ?_ (Below.mono (by with_reducible assumption) (by first | omega | (simp; done) | (simp; omega)))))⟩

theorem disk_Crash_good (d : Dsk) (x : Nat) (v : Value) (w : World) (hd : RDisk w v d) (hg : goodD d = true) (hx : x ≤ 9223372036854775807) :
    Calls Tryd.prog 13 #[v, .int .i64 (x : Int)] w fun e w' => ∃ v', e = .returned (.tuple #[v', .int .i64 0]) ∧ RDisk w' v' ⟨crashL d x d.safe.length, []⟩ ∧ NewD w.heap.size w' v v' d ⟨crashL d x d.safe.length, []⟩ ∧ Below w.heap.size w w' := by
  have hG := fun w (hh : RDisk w v d) => disk_Good d v w hh
  have hd2 := hd
  obtain ⟨vs, vw, rfl, hs, hw, n1, n2⟩ := hd
  obtain ⟨a, cap, rfl, ca1, ca2⟩ := hs.form
  obtain ⟨b, bcap, rfl, cb1, cb2⟩ := hw.form
  rw [hg] at hG
  obtain ⟨g1, g2, _, _⟩ := (goodD_iff d).1 hg
  clear hg
  have hC := fun v w (hh : RL strC w v d.safe) => clone_Strings d.safe v w hh n1
  have hset := fun (k : Nat) (hk : k < d.safe.length) => mixL_set d x hk
  have hlen := fun (k : Nat) (hk : k ≤ d.safe.length) => mixL_len d x hk
  have hget := fun (k : Nat) => crashAt_get d x k (Nat.mod_lt _ (textsAt_pos d k))
  have hpos := fun (k : Nat) => textsAt_pos d k
  have hle := fun (k : Nat) => textsAt_le d k
  have hdr := fun (k : Nat) => drawAt_le d x k
  have hds := fun (k : Nat) => drawAt_succ d x k
  have htx := fun (k : Nat) (hk : k < d.safe.length) => textsAt_eq d hk
  have hhit := fun (n k : Nat) (hn : n < d.safe.length) (hk : k < d.writes.length) => afterL_hit d.safe[n] n hk
  have hmiss := fun (n k : Nat) (hn : n < d.safe.length) (hk : k < d.writes.length) => afterL_miss d.safe[n] n hk
  have hal := fun (n k : Nat) (hn : n < d.safe.length) => afterL_len d.safe[n] n (d.writes.take k)
  have hm0 := mixL_zero d x
  have hmf := mixL_full d x
  have hcl := crashL_len d x d.safe.length
  replace hd2 := hid hd2; replace hG := hid hG; replace hC := hid hC; replace hs := hid hs; replace hw := hid hw; replace hset := hid hset; replace hlen := hid hlen
  replace hget := hid hget; replace hpos := hid hpos; replace hle := hid hle; replace hdr := hid hdr; replace hds := hid hds; replace htx := hid htx; replace hhit := hid hhit; replace hmiss := hid hmiss; replace hal := hid hal
  replace hm0 := hid hm0; replace hmf := hid hmf; replace hcl := hid hcl; replace g1 := hid g1
  go_enter Tryd.func13, Tryd.ntmps13
  go_wp2_with (first
    | (go_at_call 20; refine (hG.out _ (hd2.out.below (by repeat (first | exact Below.refl _ _ | with_reducible assumption | (refine allocB ?_ (by first | omega | (simp; done) | (simp; omega)) _) | (refine Below.setCell ?_ (by first | omega | (simp; done) | (simp; omega)) _) | refine Below.drew ?_ | (refine Below.trans ?_ (Below.mono (by with_reducible assumption) (by first | omega | (simp; done) | (simp; omega)))))))).mono ?_; rintro e w1 ⟨rfl, hb1⟩; obtain ⟨hbc, hbf⟩ := bcell hb1; have hbz := hb1.size; try simp only [World.size_alloc, World.size_setCell, World.size_drew] at hbz; have hz0 := Nat.lt_of_lt_of_le (n := w.heap.size) (by omega) hbz; have hz1 := Nat.lt_of_lt_of_le (n := w.heap.size + 1) (by omega) hbz)
    | (go_at_call 21; go_loud (refine (hC.out _ _ (hs.out.below (by repeat (first | exact Below.refl _ _ | with_reducible assumption | (refine allocB ?_ (by first | omega | (simp; done) | (simp; omega)) _) | (refine Below.setCell ?_ (by first | omega | (simp; done) | (simp; omega)) _) | refine Below.drew ?_ | (refine Below.trans ?_ (Below.mono (by with_reducible assumption) (by first | omega | (simp; done) | (simp; omega)))))))).mono ?_; rintro e w3 ⟨v3, rfl, hown3, hb3⟩; obtain ⟨a3, cap3, rfl⟩ := hown3.form; have k0 : Blk w3 w.heap.size #[.slice a d.safe.length cap, .slice b d.writes.length bcap] 25 := (((Blk.new w _ _).alloc _).step hb1).step hb3; have k1 : Blk w3 (w.heap.size + 1) #[.slice none 0 0, .slice none 0 0] 25 := ((Blk.newAt (w := w.alloc _) (by simp)).step hb1).step hb3; have hnx3 : Below w.heap.size w w3 := (by repeat (first | exact Below.refl _ _ | with_reducible assumption | (refine allocB ?_ (by first | omega | (simp; done) | (simp; omega)) _) | (refine Below.setCell ?_ (by first | omega | (simp; done) | (simp; omega)) _) | refine Below.drew ?_ | (refine Below.trans ?_ (Below.mono (by with_reducible assumption) (by first | omega | (simp; done) | (simp; omega)))))); have lt1 := k1.lt; have lt0 := k0.lt; have c0 := k0.cell 0; have c1 := k0.cell 1; simp only [List.getElem?_toArray, List.getElem?_cons_zero, List.getElem?_cons_succ] at c0 c1; have og := fun g (hh : Value.ownBlock (.slice a3 d.safe.length cap3) = some g) => World.ownsRow.lt hown3 g hh; replace og := hid og; have lz := hb1.size; clear hbc hbf hbz hb1 hb3)))
  have hz1w : w.heap.size + 1 < w1.heap.size := by (try simp at lz); omega
  have o0 := hown3
  rw [← hm0.out] at o0
  go_loopw [1, 26] (fun s1 i wr => ∃ k : Nat, k ≤ d.safe.length ∧ i = .int .i64 k ∧ s1 = .int .i64 (drawAt d x k : Nat) ∧ Wb.Own strC w1.heap.size 9 1 wr (.slice a3 d.safe.length cap3) (mixL d x k) ∧ Blk wr w.heap.size #[.slice a d.safe.length cap, .slice b d.writes.length bcap] 25 ∧ Blk wr (w.heap.size + 1) #[.slice none 0 0, .slice none 0 0] 25 ∧ Blk wr w3.heap.size #[.slice a3 d.safe.length cap3, .slice none 0 0] 25 ∧ Below w.heap.size w wr) (fun _ i _ => d.safe.length - (intOf i).toNat)
  case atStart => exact ⟨0, Nat.zero_le _, rfl, rfl, o0.alloc _, k0.alloc _, k1.alloc _, Blk.new _ _ _, allocB hnx3 (by omega) _⟩
  case round =>
    clear k0 k1 hnx3 lt0 lt1 c0 c1 o0 hown3
    obtain ⟨wo, rfl⟩ : ∃ wo : World, wo = wr := ⟨_, rfl⟩
    obtain ⟨k, hk, rfl, rfl, hown, k0, k1, k2, hnx⟩ := hrel
    have lt0 := k0.lt
    have lt1 := k1.lt
    have lt2 := k2.lt
    have c0 := k0.cell 0
    have c1 := k0.cell 1
    have c2 := k1.cell 0
    have c3 := k1.cell 1
    have c4 := k2.cell 0
    have c5 := k2.cell 1
    simp only [List.getElem?_toArray, List.getElem?_cons_zero, List.getElem?_cons_succ] at c0 c1 c2 c3 c4 c5
    by_cases hlt : k < d.safe.length
    · obtain ⟨b2, off, rfl, d0⟩ := RL.at1 (fun x => .string x) (fun _ => rfl) (hs.out.below hnx) hlt
      have ld := World.block_lt_of_cell? _ _ d0
      dsimp only at ld
      have hset := hset.out k hlt
      have hget := hget.out k
      have hpos := hpos.out k
      have hle := hle.out k
      have hdr := hdr.out k
      have hds := hds.out k
      have htx := htx.out k hlt
      have hhit := fun j hj => hhit.out k j hlt hj
      have hmiss := fun j hj => hmiss.out k j hlt hj
      have hal := fun j => hal.out k j hlt
      have hml := hlen.out k (by omega)
      generalize mixL d x k = M at *
      replace hset := hid hset; replace hget := hid hget; replace hds := hid hds; replace htx := hid htx; replace hhit := hid hhit; replace hmiss := hid hmiss; replace hal := hid hal; replace hml := hid hml; replace hpos := hid hpos; replace hle := hid hle
      obtain ⟨sk, hsk⟩ : ∃ sk, sk = d.safe[k] := ⟨_, rfl⟩
      rw [← hsk] at d0 htx hhit hmiss hal
      clear hsk
      generalize drawAt d x k = y at *
      go_wp2
      have kl : Blk (wo.alloc (.cells #[.string sk] 9)) wo.heap.size #[.string sk] 9 := Blk.new wo _ _
      go_loopw [8, 10, 38] (fun l _ i wi => ∃ j : Nat, j ≤ d.writes.length ∧ i = .int .i64 j ∧ Wb.Own strC wo.heap.size 9 1 wi l (afterL sk k (d.writes.take j)) ∧ Below wo.heap.size wo wi ∧ wo.heap.size < wi.heap.size) (fun _ _ i _ => d.writes.length - (intOf i).toNat)
      case atStart =>
        refine ⟨0, Nat.zero_le _, rfl, ?_, bal (b0 wo) _, by simp⟩
        rw [List.take_zero, afterL_nil]
        exact Own.lit (f := strC) strC_flat wo.heap.size 9 wo [sk] (by simp) (by show 1 ≤ maxLen; decide) rfl (by simp) rfl
      case round =>
        obtain ⟨j, hj, rfl, hl, hbi, hzi⟩ := hrel
        by_cases hlt2 : j < d.writes.length
        · obtain ⟨b3, off3, rfl, d1, d2⟩ := RL.at2 (fun x => .int .i64 x.at_) (fun x => .string x.text) (fun _ => rfl) ((hw.out.below hnx).below hbi) hlt2
          have ld3 := World.block_lt_of_cell? _ _ d1
          dsimp only at ld3
          by_cases heq : d.writes[j].at_ = k
          · have hh := hhit.out j hlt2 heq
            have hq := hal.out j
            rw [List.length_take] at hq
            have e1 : (d.writes[j].at_ == (k : Int)) = true := beq_iff_eq.2 heq
            replace hh := hid hh
            clear heq
            generalize d.writes[j] = xw at *
            generalize afterL sk k (d.writes.take j) = ls at *
            have hqq : ls.length ≤ 201 := by omega
            clear hq
            go_wp2_with (at_builtin; go_loud (refine wpList_push rfl _ _ _ rfl wo.heap.size _ 1 16 strC_flat elemStr (hl.alloc _) rfl xw.text rfl rfl ?c1 ?c2 ?c3 ?c4))
            all_goals try (case c1 => omega)
            all_goals try (case c2 => unfold maxLen; omega)
            all_goals try (case c3 => simp; omega)
            case c4 =>
              intro v7 w7 hown7 hbel7 _
              rw [← hh.out] at hown7
              have hz7 := hbel7.size
              go_wp2
              go_roundw
              case rel => exact ⟨j + 1, by omega, by go_num, hown7, (allocB hbi (by omega) _).trans (hbel7.mono (by omega)), by simp at hz7; omega⟩
              case measure => simp [intOf]; omega
          · have hh := hmiss.out j hlt2 heq
            have e1 : (d.writes[j].at_ == (k : Int)) = false := beq_eq_false_iff_ne.2 heq
            replace hh := hid hh
            clear heq
            generalize d.writes[j] = xw at *
            go_wp2
            go_roundw
            case rel => exact ⟨j + 1, by omega, by go_num, by rw [hh.out]; exact hl.alloc _, allocB hbi (by omega) _, by simp; omega⟩
            case measure => simp [intOf]; omega
        · rw [List.take_of_length_le (by omega), ← htx.out] at hl
          obtain ⟨al, capl, rfl⟩ := hl.form
          have k0 := k0.step hbi
          have k1 := k1.step hbi
          have k2 := k2.step hbi
          have hown := hown.below hbi
          have hnx := hnx.trans (hbi.mono (by omega))
          clear c0 c1 c2 c3 c4 c5 lt0 lt1 lt2 d0 ld kl
          have lt2 := k2.lt
          have c4 := k2.cell 0
          simp only [List.getElem?_toArray, List.getElem?_cons_zero, List.getElem?_cons_succ] at c4
          replace hpos := hpos.out
          replace hle := hle.out
          replace hget := hget.out
          replace hds := hds.out
          have hmx := Nat.mod_lt y hpos
          have hmi : ((y : Int) % ((textsAt d k).length : Int)) = ((y % (textsAt d k).length : Nat) : Int) := rfl
          have hmt : ((y : Int).tmod ((textsAt d k).length : Int)) = ((y % (textsAt d k).length : Nat) : Int) := rfl
          have hdi : ((y : Int) / ((textsAt d k).length : Int)) = ((y / (textsAt d k).length : Nat) : Int) := rfl
          have hdt : ((y : Int).tdiv ((textsAt d k).length : Int)) = ((y / (textsAt d k).length : Nat) : Int) := rfl
          rw [← hds] at hdi hdt
          generalize hye : drawAt d x (k + 1) = y2 at *
          replace hye := hid hye
          obtain ⟨bl, offl, rfl, z0⟩ := RL.at1 (fun x => .string x) (fun _ => rfl) hl.reads hmx
          rw [hget] at z0
          clear hget
          replace hds := hid hds
          generalize y % (textsAt d k).length = q at *
          generalize crashAt d x k = t at *
          generalize textsAt d k = ls at *
          have hne0 : ((ls.length : Int) == 0) = false := beq_eq_false_iff_ne.2 (by omega)
          have hm := hml.out
          obtain ⟨g, cap4, hv, hgb, hgl, hgc, hpk⟩ := hown.poke strC_flat (k := k) (by omega)
          simp only [Value.slice.injEq] at hv
          obtain ⟨rfl, _, rfl⟩ := hv
          obtain ⟨z2, z3⟩ := hgc 0 (by decide)
          replace hpk := hpk 0 t (.string t) (by decide) rfl
          rw [hset.out, Nat.mul_one, Nat.add_zero] at hpk
          simp only [Nat.mul_one, Nat.add_zero, strC, List.getElem?_cons_zero] at z2 z3
          replace hpk := hid hpk
          have hne := og.out g rfl
          have hm3 : k < M.length := by omega
          obtain ⟨old, hold⟩ : ∃ o, M[k] = o := ⟨_, rfl⟩
          rw [hold] at z3
          clear hold hm hown hgc hm3
          have hq2 : (q : Int) < (ls.length : Int) := by omega
          have hk2 : (k : Int) < (d.safe.length : Int) := by omega
          have lz0 := World.block_lt_of_cell? _ _ z0
          dsimp only at lz0
          have hy0 : (y : Int) ≤ 9223372036854775807 := by omega
          have hys : y2 ≤ y := by rw [hds.out]; exact Nat.div_le_self _ _
          have hy2 : IntKind.i64.wrap (y2 : Int) = y2 := IntWalk.i64_in _ (by omega)
          go_wp2
          go_region
          all_goals
            go_wp2
            go_roundw
            case rel => exact ⟨k + 1, by omega, by go_num, by rw [hye.out], hpk.out, k0.drew.set_other _ _ (by simp; omega), k1.drew.set_other _ _ (by simp; omega), k2.drew.set_other _ _ (by simp; omega), hnx.drew.setCell (by simp; omega) _⟩
            case measure => simp [intOf]; omega
    · obtain rfl : k = d.safe.length := by omega
      rw [hmf.out] at hown
      have f1 := k1.free 0
      have f2 := k1.free 1
      have hcl2 := hcl.out
      go_wp2
      have hF : Below w.heap.size w ((wo.setCell ⟨w.heap.size + 1, 0, none⟩ (.slice a3 d.safe.length cap3)).setCell ⟨w.heap.size + 1, 1, none⟩ (.slice none 0 0)) := (hnx.setCell (by simp) _).setCell (by simp) _
      have ho := (hown.setCell (p := ⟨w.heap.size + 1, 0, none⟩) (by simp; omega) (.slice a3 d.safe.length cap3)).setCell (p := ⟨w.heap.size + 1, 1, none⟩) (by simp; omega) (.slice none 0 0)
      refine bodyPost_ret (v := .tuple #[.agg #[.slice a3 d.safe.length cap3, .slice none 0 0], .int .i64 0]) (by simp [results, Tryd.results13, go_sem, c2, c3]) rfl ⟨_, rfl, ⟨_, _, rfl, ho.reads, RL.nil _ _, by rw [hcl.out]; exact n1, by simp⟩, ⟨_, _, _, _, rfl, rfl, ho.slot (by omega), .nil⟩, hF⟩

theorem disk_CrashN (d : Dsk) (draw : Int) (v : Value) (w : World) (hd : RDisk w v d) (hx : draw ≤ 9223372036854775807) :
    Calls Tryd.prog 13 #[v, .int .i64 draw] w fun e w' => ∃ v', e = .returned (.tuple #[v', .int .i64 (crashE d draw)]) ∧ RDisk w' v' (crashD d draw) ∧ NewD w.heap.size w' v v' d (crashD d draw) ∧ Below w.heap.size w w' := by
  by_cases h : goodD d = true ∧ 0 ≤ draw
  · obtain ⟨hg, h0⟩ := h
    have he : crashE d draw = 0 := by unfold crashE; rw [if_pos ⟨hg, h0⟩]
    have hv : crashD d draw = ⟨crashL d draw.toNat d.safe.length, []⟩ := by unfold crashD; rw [if_pos ⟨hg, h0⟩]
    rw [he, hv]
    have := disk_Crash_good d draw.toNat v w hd hg (by omega)
    rwa [Int.toNat_of_nonneg h0] at this
  · exact disk_Crash_bad d draw v w hd h
theorem disk_Crash (d : Dsk) (draw : Int) (v : Value) (w : World) (hd : RDisk w v d) (hx : draw ≤ 9223372036854775807) :
    Calls Tryd.prog 13 #[v, .int .i64 draw] w fun e w' => ∃ v', e = .returned (.tuple #[v', .int .i64 (crashE d draw)]) ∧ RDisk w' v' (crashD d draw) ∧ Below w.heap.size w w' :=
  (disk_CrashN d draw v w hd hx).mono fun e w' ⟨v', h1, h2, _, h3⟩ => ⟨v', h1, h2, h3⟩
end Go.Proofs.YtjhmfljlclajnacDoor
