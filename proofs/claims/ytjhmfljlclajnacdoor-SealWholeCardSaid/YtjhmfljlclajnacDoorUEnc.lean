/- Part of the proof: Enc. -/
import Derived.Test.YtjhmfljlclajnacDoorUStamp2
import Derived.Test.YtjhmfljlclajnacDoorUFit2
import Derived.Test.YtjhmfljlclajnacDoorUPure2
import Derived.Lib.SmallJoins
import Derived.Deep.CutBlock
import Derived.Deep.DeepCutAuto
set_option linter.unusedVariables false
set_option linter.unusedSimpArgs false
namespace Go.Proofs.YtjhmfljlclajnacDoor
open Go.RowKit Wb
set_option maxRecDepth 100000
set_option maxHeartbeats 4000000
theorem elemByte : Elem Tryd.prog 111 5 1 1 := Elem.mk' (z := .int .u8 0) Tryd.underlying111 (by kernel_rfl) rfl
theorem stamp_Encode (m : Mrk) (v : Value) (w : World) (hm : RMark w v m) :
    Calls Tryd.prog 24 #[v] w fun e w' => e = .returned (.tuple #[.string (markS m), .int .i64 (markE m)]) ∧ Below w.heap.size w w' := by
 have hG := fun w (hh : RMark w v m) => stamp_Good m v w hh
 have hm2 := hm
 obtain ⟨vt, vb, rfl, ht, hbk, n1, n2⟩ := hm
 by_cases hE : markE m = 0
 ·have hS : markS m = str (markL m) := by unfold markS; rw [if_pos hE]
  have hfit : fit (str (headL m ++ bodyL m)) = markS m := by rw [hS]; exact fit_str _
  rw [hE] at hG ⊢
  obtain ⟨hA, hB, hC, hD⟩ := markE_good hE
  clear hS hE
  generalize markS m = ms at *
  obtain ⟨kd, sq, at_, tags, blks⟩ := m
  unfold badKind at hA
  unfold badNum at hB
  unfold badForm at hC
  unfold badLen at hD
  dsimp only at *
  obtain ⟨ta, tcap, rfl, tc1, tc2⟩ := ht.form
  obtain ⟨ba, bcap, rfl, bc1, bc2⟩ := hbk.form
  unfold maxLen at tc2 bc2
  have hk : kd = 1 ∨ kd = 2 ∨ kd = 3 ∨ kd = 4 := by omega
  obtain ⟨q1, q2, q3, q4⟩ : 1 ≤ sq ∧ sq ≤ 2147483647 ∧ 0 ≤ at_ ∧ at_ < 24 := by omega
  have g4 : tags.length ≤ 10 := by omega
  have g5 : blks.length ≤ 20 := by omega
  clear hA hB hC hD
  have hFt := fun s w hs => disk_Fit s w hs
  replace hFt := hid hFt
  replace hG := hid hG
  replace hm2 := hid hm2
  replace hfit := hid hfit
  replace ht := hid ht
  replace hbk := hid hbk
  clear n1 n2 tc1 tc2 bc1 bc2
  have nf : 0 < w.heap.size + 1 := by omega
  go_enter Tryd.func24, Tryd.ntmps24
  go_wp2_with (first
   | (go_at_call 44; refine (hG.out _ (hm2.out.below (by exact Zlo))).mono ?_; rintro e w1 ⟨rfl, hb1⟩; obtain ⟨hbc, hbf⟩ := bcell hb1; have hbz := hb1.size; try simp only [World.size_alloc, World.size_setCell, World.size_drew] at hbz; have hz0 := Nat.lt_of_lt_of_le (n := w.heap.size) (by omega) hbz; have kc := Lib.run_convert_bytes_const (P := Tryd.prog) w1 111 5 #[.int .u8 87, .int .u8 66, .int .u8 75, .int .u8 49] 4 4 Tryd.underlying111 Tryd.underlying5)
   | (at_builtin; go_loud (refine wpList_lit rfl _ _ _ rfl (w.heap.size + 1) _ 1 1 byteC_flat elemByte magic [byte kd, byte (sq / 16777216), byte (sq / 65536), byte (sq / 256), byte sq] rfl ?b3 rfl rfl (Nat.succ_pos _) (by show 9 * 1 ≤ _; decide) (by show 9 ≤ maxLen; decide) ?c3 ?c4)))
  case b3 =>
   have e1 : kd % 256 = kd := by omega
   have e2 : sq / 16777216 % 256 = sq / 16777216 := by omega
   simp [byteC, byte_val, e1, e2]
  case c3 => omega
  case c4 =>
  intro v5 w5 hown hbel
  change Wb.Own byteC _ _ _ _ _ (headL ⟨kd, sq, at_, tags, blks⟩) at hown
  have hl9 : (headL ⟨kd, sq, at_, tags, blks⟩).length = 9 := rfl
  generalize headL ⟨kd, sq, at_, tags, blks⟩ = hd at *
  obtain ⟨bd, hbd⟩ : ∃ l, l = bodyL ⟨kd, sq, at_, tags, blks⟩ := ⟨_, rfl⟩
  rw [← hbd] at hfit
  have kb : Blk w5 w.heap.size #[.int .i64 kd, .int .i64 sq, .int .i64 at_, .slice ta tags.length tcap, .slice ba blks.length bcap] 69 := ((Blk.new w _ _).step hb1).below hbel (by omega)
  have hnx : Below w.heap.size w w5 := by exact Zlo
  have hz : w.heap.size + 1 ≤ w5.heap.size := Nat.le_trans hbz hbel.size
  clear hb1 hbel hbc hbf hbz hz0 kc hm2 hG
  have c0 := kb.cell 0
  have c2 := kb.cell 2
  have c3 := kb.cell 3
  have c4 := kb.cell 4
  simp only [Zga, Zgb, Zgc] at c0 c2 c3 c4
  have lt0 := kb.lt
  go_upto_block 0 with fail
  go_cut [5] (fun s5 wx => Wb.Own byteC (w.heap.size + 1) 5 1 wx s5 (hd ++ bd) ∧ Below w.heap.size w wx)
  case first =>
   rcases hk with rfl | rfl | rfl | rfl
   ·have hbody : bd = [byte at_] := hbd
    replace hbody := hid hbody
    clear hbd
    go_wp2_with (at_builtin; go_loud (refine wpList_push rfl _ _ _ rfl (w.heap.size + 1) _ 1 1 byteC_flat elemByte hown rfl (byte at_) ?b rfl ?c1 ?c2 ?c3 ?c4))
    case b =>
     have e1 : at_ % 256 = at_ := by omega
     simp [byteC, byte_val, e1]
    case c1 => rw [hl9]; decide
    case c2 => rw [hl9]; decide
    case c3 => omega
    case c4 =>
     intro v6 w6 hown6 hbel6 _
     go_wp2
     go_meet
     exact ⟨by rw [hbody.out]; exact hown6, by exact Zlo⟩
   ·have hbody : bd = [byte tags.length] ++ tags.flatMap tagB := hbd
    replace hbody := hid hbody
    clear hbd
    go_wp2_with (at_builtin; go_loud (refine wpList_push rfl _ _ _ rfl (w.heap.size + 1) _ 1 1 byteC_flat elemByte hown rfl (byte tags.length) ?b rfl ?c1 ?c2 ?c3 ?c4))
    case b =>
     have e1 : (tags.length : Int) % 256 = tags.length := by omega
     simp [byteC, byte_val, e1]
    case c1 => rw [hl9]; decide
    case c2 => rw [hl9]; decide
    case c3 => omega
    case c4 =>
     intro v6 w6 hown6 hbel6 _
     have kb6 := kb.below hbel6 (by omega)
     have hnx6 := hnx.trans (hbel6.mono (by omega))
     have hz6 := hbel6.size
     have c3 := kb6.cell 3
     simp only [Zga, Zgb, Zgc] at c3
     clear hown kb hbel6
     go_wp2
     go_loopw [5, 7, 8, 60] (fun s5 _ _ i wr => ∃ k : Nat, k ≤ tags.length ∧ i = .int .i64 k ∧ Wb.Own byteC (w.heap.size + 1) 5 1 wr s5 (hd ++ ([byte tags.length] ++ (tags.take k).flatMap tagB)) ∧ Below w.heap.size w wr ∧ w.heap.size + 1 ≤ wr.heap.size) (fun _ _ _ i _ => tags.length - (intOf i).toNat)
     case atStart => exact ⟨0, Nat.zero_le _, rfl, by simpa using hown6, hnx6, by omega⟩
     case round =>
      obtain ⟨k, hk, rfl, hown, hnx, hz⟩ := hrel
      by_cases hlt : k < tags.length
      ·obtain ⟨b, off, rfl, d0, d1⟩ := RL.at2 (fun x => .int .i64 x.block) (fun x => .bool x.esc) (fun _ => rfl) (ht.out.below hnx) hlt
       have lt1 := World.block_lt_of_cell? _ _ d0
       dsimp only at lt1
       have hstep : tags.take (k + 1) = tags.take k ++ [tags[k]] := by rw [List.take_succ_eq_append_getElem hlt]
       have hln : (hd ++ ([byte tags.length] ++ (tags.take k).flatMap tagB)).length = 10 + k * 2 := by
        rw [List.length_append, List.length_append, hl9, tagBs_len, List.length_take, Nat.min_eq_left hk]; simp; omega
       have hjoin : ∀ x : Tag, tags[k] = x → (hd ++ ([byte tags.length] ++ (tags.take k).flatMap tagB)) ++ tagB x = hd ++ ([byte tags.length] ++ (tags.take (k + 1)).flatMap tagB) := by
        rintro x rfl
        rw [hstep, List.flatMap_append, List.flatMap_cons, List.flatMap_nil, List.append_nil]
        simp only [List.append_assoc]
       replace hjoin := hid (hjoin _ rfl)
       clear hstep
       have e1 := byte_val tags[k].block
       generalize hd ++ ([byte tags.length] ++ (tags.take k).flatMap tagB) = ls at *
       generalize tags[k] = x at *
       obtain ⟨xb, xe⟩ := x
       dsimp only at d0 d1
       have lt2 : w.heap.size + 1 ≤ wr.heap.size + 1 := by omega
       have tb : ∀ y : Bool, byteC (if y then 1 else 0) = [.int .u8 (if y then 1 else 0)] := fun y => by cases y <;> rfl
       cases xe
       ·replace tb := hid (tb false)
        go_wp2_with (at_builtin; go_loud (refine wpList_pushN rfl _ _ _ rfl (w.heap.size + 1) _ 1 1 byteC_flat elemByte (hown.alloc _) rfl (tagB ⟨xb, false⟩) ?b rfl ?c1 ?c2 ?c3 ?c4))
        case b => simp [tagB, byteC, byte_val]
        all_goals try (case c1 => (try rw [hln]); show 10 + k * 2 + 2 ≤ _; omega)
        all_goals try (case c2 => (try rw [hln]); show 10 + k * 2 + 2 ≤ maxLen; unfold maxLen; omega)
        all_goals try (case c3 => simp; omega)
        case c4 =>
         intro v7 w7 hown7 hbel7 _
         rw [hjoin.out] at hown7
         have hz7 := hbel7.size
         go_wp2
         go_roundw
         case rel => exact ⟨k + 1, by omega, by go_num, hown7, (allocB hnx (by omega) _).trans (hbel7.mono (by omega)), by simp at hz7; omega⟩
         case measure => simp [intOf]; omega
       ·replace tb := hid (tb true)
        go_wp2_with (at_builtin; go_loud (refine wpList_pushN rfl _ _ _ rfl (w.heap.size + 1) _ 1 1 byteC_flat elemByte (hown.alloc _) rfl (tagB ⟨xb, true⟩) ?tb rfl ?tc1 ?tc2 ?tc3 ?tc4))
        case tb => simp [tagB, byteC, byte_val]
        all_goals try (case tc1 => (try rw [hln]); show 10 + k * 2 + 2 ≤ _; omega)
        all_goals try (case tc2 => (try rw [hln]); show 10 + k * 2 + 2 ≤ maxLen; unfold maxLen; omega)
        all_goals try (case tc3 => simp; omega)
        case tc4 =>
         intro v7 w7 hown7 hbel7 _
         rw [hjoin.out] at hown7
         have hz7 := hbel7.size
         go_wp2
         go_roundw
         case rel => exact ⟨k + 1, by omega, by go_num, hown7, (allocB hnx (by omega) _).trans (hbel7.mono (by omega)), by simp at hz7; omega⟩
         case measure => simp [intOf]; omega
      ·obtain rfl : k = tags.length := by omega
       rw [List.take_length] at hown
       go_wp2
       go_meet
       exact ⟨by rw [hbody.out]; exact hown, hnx⟩
   ·have hbody : bd = [byte blks.length] ++ blks.map byte := hbd
    replace hbody := hid hbody
    clear hbd
    go_wp2_with (at_builtin; go_loud (refine wpList_push rfl _ _ _ rfl (w.heap.size + 1) _ 1 1 byteC_flat elemByte hown rfl (byte blks.length) ?kb rfl ?kc1 ?kc2 ?kc3 ?kc4))
    all_goals try (case kb =>
     have e1 : (blks.length : Int) % 256 = blks.length := by omega
     simp [byteC, byte_val, e1])
    all_goals try (case kc1 => rw [hl9]; decide)
    all_goals try (case kc2 => rw [hl9]; decide)
    all_goals try (case kc3 => omega)
    case kc4 =>
     intro v6 w6 hown6 hbel6 _
     have kb6 := kb.below hbel6 (by omega)
     have hnx6 := hnx.trans (hbel6.mono (by omega))
     have hz6 := hbel6.size
     have c4 := kb6.cell 4
     simp only [Zga, Zgb, Zgc] at c4
     clear hown kb hbel6
     go_wp2
     go_loopw [5, 10, 86] (fun s5 _ i wr => ∃ k : Nat, k ≤ blks.length ∧ i = .int .i64 k ∧ Wb.Own byteC (w.heap.size + 1) 5 1 wr s5 (hd ++ ([byte blks.length] ++ (blks.take k).map byte)) ∧ Below w.heap.size w wr ∧ w.heap.size + 1 ≤ wr.heap.size) (fun _ _ i _ => blks.length - (intOf i).toNat)
     case atStart => exact ⟨0, Nat.zero_le _, rfl, by simpa using hown6, hnx6, by omega⟩
     case round =>
      obtain ⟨k, hk, rfl, hown, hnx, hz⟩ := hrel
      by_cases hlt : k < blks.length
      ·obtain ⟨b, off, rfl, d0⟩ := RL.at1 (fun x => .int .i64 x) (fun _ => rfl) (hbk.out.below hnx) hlt
       have lt1 := World.block_lt_of_cell? _ _ d0
       dsimp only at lt1
       have hstep : blks.take (k + 1) = blks.take k ++ [blks[k]] := by rw [List.take_succ_eq_append_getElem hlt]
       have hln : (hd ++ ([byte blks.length] ++ (blks.take k).map byte)).length = 10 + k := by
        rw [List.length_append, List.length_append, hl9, List.length_map, List.length_take, Nat.min_eq_left hk]; simp; omega
       have hjoin : ∀ x : Int, blks[k] = x → (hd ++ ([byte blks.length] ++ (blks.take k).map byte)) ++ [byte x] = hd ++ ([byte blks.length] ++ (blks.take (k + 1)).map byte) := by
        rintro x rfl
        rw [hstep, List.map_append, List.map_cons, List.map_nil]
        simp only [List.append_assoc]
       replace hjoin := hid (hjoin _ rfl)
       clear hstep
       generalize hd ++ ([byte blks.length] ++ (blks.take k).map byte) = ls at *
       generalize blks[k] = x at *
       go_wp2_with (at_builtin; go_loud (refine wpList_push rfl _ _ _ rfl (w.heap.size + 1) _ 1 1 byteC_flat elemByte hown rfl (byte x) ?nb rfl ?nc1 ?nc2 ?nc3 ?nc4))
       all_goals try (case nb => simp [byteC, byte_val])
       all_goals try (case nc1 => (try rw [hln]); omega)
       all_goals try (case nc2 => (try rw [hln]); unfold maxLen; omega)
       all_goals try (case nc3 => omega)
       case nc4 =>
           intro v7 w7 hown7 hbel7 _
           rw [hjoin.out] at hown7
           have hz7 := hbel7.size
           go_wp2
           go_roundw
           case rel => exact ⟨k + 1, by omega, by go_num, hown7, hnx.trans (hbel7.mono (by omega)), by omega⟩
           case measure => simp [intOf]; omega
      ·obtain rfl : k = blks.length := by omega
       rw [List.take_length] at hown
       go_wp2
       go_meet
       exact ⟨by rw [hbody.out]; exact hown, hnx⟩
   ·have hbody : bd = [] := hbd
    replace hbody := hid hbody
    clear hbd
    go_wp2
    go_meet
    exact ⟨by rw [hbody.out, List.append_nil]; exact hown, hnx⟩
  case rest =>
   obtain ⟨hown5, hnx5⟩ := hcut
   have hr5 := hown5.reads
   have hcv := run_toString (P := Tryd.prog) (src := 111) (dst := 9) _ Tryd.underlying111 Tryd.underlying5 Tryd.underlying9 hr5
   have hsz : (str (hd ++ bd)).size ≤ 9223372036854775807 := by
    obtain ⟨_, _, _, q1, q2⟩ := hr5.form
    rw [str_size]; unfold maxLen at q2; omega
   replace hfit := hid hfit
   generalize str (hd ++ bd) = sb at *
   replace hr5 := hid hr5
   go_wp2_with (go_at_call 45; refine (hFt.out _ _ hsz).mono ?_; rintro e w1 ⟨rfl, hb1⟩)
   go_ret2
   exact ⟨ret_st hfit.out.out, hnx5.trans (hb1.mono hnx5.size)⟩
 ·have hS : markS m = str [] := by unfold markS; rw [if_neg hE]
  rw [hS]
  have hne : (markE m != 0) = true := bne_iff_ne.2 hE
  generalize markE m = er at *
  replace hG := hid hG
  replace hm2 := hid hm2
  obtain ⟨kd, sq, at_, tags, blks⟩ := m
  dsimp only at *
  clear hS hE ht hbk
  go_enter Tryd.func24, Tryd.ntmps24
  go_wp2_with (go_at_call 44; refine (hG.out _ (hm2.out.below (by exact Zlo))).mono ?_; rintro e w1 ⟨rfl, hb1⟩; obtain ⟨hbc, hbf⟩ := bcell hb1; have hbz := hb1.size; try simp only [World.size_alloc, World.size_setCell, World.size_drew] at hbz; have hz0 := Nat.lt_of_lt_of_le (n := w.heap.size) (by omega) hbz)
  go_ret2
  exact ⟨rfl, by exact Zlo⟩
end Go.Proofs.YtjhmfljlclajnacDoor
