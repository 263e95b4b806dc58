/- The walk of stamp.Encode. The walk of seal.Check. The walks of Commit's inner functions: log and mark. The walks of txn: copies, Asked, Open, handle. -/
import Derived.Test.YtjhmfljlclajnabDoorStamp2
import Derived.Test.YtjhmfljlclajnabDoorKSealCommits5
import Derived.Test.YtjhmfljlclajnabDoorKSealCommits1
import Derived.Lib.SmallJoins
import Derived.Deep.CutBlock
import Derived.Deep.DeepCutAuto
import Derived.Test.YtjhmfljlclajnabDoorKSealCommits4
namespace Go.Proofs.YtjhmfljlclajnabDoor
open Go.RowKit Wb
set_option linter.unusedVariables false
set_option linter.unusedSimpArgs false
set_option maxRecDepth 100000
set_option maxHeartbeats 4000000

theorem elemByte : Elem Tryd.prog 120 5 1 1 := Elem.mk' (z := .int .u8 0) Tryd.underlying120 (by kernel_rfl) rfl

theorem stamp_Encode (m : Mrk) (v : Value) (w : World) (hm : RMark w v m) :
    Calls Tryd.prog 38 #[v] w fun e w' => e = .returned (.tuple #[.string (markS m), .int .i64 (markE m)]) ∧ Below w.heap.size w w' := by
  have hG := fun w (hh : RMark w v m) => stamp_Good m v w hh
  have hm2 := hm
  obtain ⟨vt, vb, rfl, ht, hbk, n1, n2⟩ := hm
  by_cases hE : markE m = 0
  · have hS : markS m = str (markL m) := by unfold markS; rw [if_pos hE]
    have hfit : fit (str (headL m ++ bodyL m)) = markS m := by rw [hS]; exact fit_str _
    rw [hE] at hG ⊢
    obtain ⟨hA, hB, hC, hD⟩ := markE_good hE
    clear hS hE
    generalize markS m = ms at *
    obtain ⟨kd, sq, at_, tags, blks⟩ := m
    unfold badKind at hA
    unfold badNum at hB
    unfold badForm at hC
    unfold badLen at hD
    dsimp only at *
    obtain ⟨ta, tcap, rfl, tc1, tc2⟩ := ht.form
    obtain ⟨ba, bcap, rfl, bc1, bc2⟩ := hbk.form
    unfold maxLen at tc2 bc2
    have hk : kd = 1 ∨ kd = 2 ∨ kd = 3 ∨ kd = 4 := by omega
    obtain ⟨q1, q2, q3, q4⟩ : 1 ≤ sq ∧ sq ≤ 2147483647 ∧ 0 ≤ at_ ∧ at_ < 24 := by omega
    have g4 : tags.length ≤ 10 := by omega
    have g5 : blks.length ≤ 20 := by omega
    clear hA hB hC hD
    have hFt := fun s w hs => disk_Fit s w hs
    replace hFt := hid hFt
    replace hG := hid hG
    replace hm2 := hid hm2
    replace hfit := hid hfit
    replace ht := hid ht
    replace hbk := hid hbk
    clear n1 n2 tc1 tc2 bc1 bc2
    have nf : 0 < w.heap.size + 1 := by omega
    go_enter Tryd.func38, Tryd.ntmps38
    go_wp2_with (first
      | (go_at_call 67; refine (hG.out _ (hm2.out.below (by repeat (first | exact Below.refl _ _ | with_reducible assumption | (refine allocB ?_ (by first | omega | (simp; done) | (simp; omega)) _) | (refine Below.setCell ?_ (by first | omega | (simp; done) | (simp; omega)) _) | refine Below.drew ?_ | (refine Below.trans ?_ (Below.mono (by with_reducible assumption) (by first | omega | (simp; done) | (simp; omega)))))))).mono ?_; rintro e w1 ⟨rfl, hb1⟩; obtain ⟨hbc, hbf⟩ := bcell hb1; have hbz := hb1.size; try simp only [World.size_alloc, World.size_setCell, World.size_drew] at hbz; have hz0 := Nat.lt_of_lt_of_le (n := w.heap.size) (by omega) hbz; have kc := Lib.run_convert_bytes_const (P := Tryd.prog) w1 120 5 #[.int .u8 87, .int .u8 66, .int .u8 75, .int .u8 49] 4 4 Tryd.underlying120 Tryd.underlying5)
      | (at_builtin; go_loud (refine wpList_lit rfl _ _ _ rfl (w.heap.size + 1) _ 1 1 byteC_flat elemByte magic [byte kd, byte (sq / 16777216), byte (sq / 65536), byte (sq / 256), byte sq] rfl ?b3 rfl rfl (Nat.succ_pos _) (by show 9 * 1 ≤ _; decide) (by show 9 ≤ maxLen; decide) ?c3 ?c4)))
    case b3 =>
      have e1 : kd % 256 = kd := by omega
      have e2 : sq / 16777216 % 256 = sq / 16777216 := by omega
      simp [byteC, byte_val, e1, e2]
    case c3 => omega
    case c4 =>
    intro v5 w5 hown hbel
    change Wb.Own byteC _ _ _ _ _ (headL ⟨kd, sq, at_, tags, blks⟩) at hown
    have hl9 : (headL ⟨kd, sq, at_, tags, blks⟩).length = 9 := rfl
    generalize headL ⟨kd, sq, at_, tags, blks⟩ = hd at *
    obtain ⟨bd, hbd⟩ : ∃ l, l = bodyL ⟨kd, sq, at_, tags, blks⟩ := ⟨_, rfl⟩
    rw [← hbd] at hfit
    have kb : Blk w5 w.heap.size #[.int .i64 kd, .int .i64 sq, .int .i64 at_, .slice ta tags.length tcap, .slice ba blks.length bcap] 81 := ((Blk.new w _ _).step hb1).below hbel (by omega)
    have hnx : Below w.heap.size w w5 := by repeat (first | exact Below.refl _ _ | with_reducible assumption | (refine allocB ?_ (by first | omega | (simp; done) | (simp; omega)) _) | (refine Below.setCell ?_ (by first | omega | (simp; done) | (simp; omega)) _) | refine Below.drew ?_ | (refine Below.trans ?_ (Below.mono (by with_reducible assumption) (by first | omega | (simp; done) | (simp; omega)))))
    have hz : w.heap.size + 1 ≤ w5.heap.size := Nat.le_trans hbz hbel.size
    clear hb1 hbel hbc hbf hbz hz0 kc hm2 hG
    have c0 := kb.cell 0
    have c2 := kb.cell 2
    have c3 := kb.cell 3
    have c4 := kb.cell 4
    simp only [List.getElem?_toArray, List.getElem?_cons_zero, List.getElem?_cons_succ] at c0 c2 c3 c4
    have lt0 := kb.lt
    go_upto_block 0 with fail
    go_cut [5] (fun s5 wx => Wb.Own byteC (w.heap.size + 1) 5 1 wx s5 (hd ++ bd) ∧ Below w.heap.size w wx)
    case first =>
      rcases hk with rfl | rfl | rfl | rfl
      · have hbody : bd = [byte at_] := hbd
        replace hbody := hid hbody
        clear hbd
        go_wp2_with (at_builtin; go_loud (refine wpList_push rfl _ _ _ rfl (w.heap.size + 1) _ 1 1 byteC_flat elemByte hown rfl (byte at_) ?b rfl ?c1 ?c2 ?c3 ?c4))
        case b =>
          have e1 : at_ % 256 = at_ := by omega
          simp [byteC, byte_val, e1]
        case c1 => rw [hl9]; decide
        case c2 => rw [hl9]; decide
        case c3 => omega
        case c4 =>
          intro v6 w6 hown6 hbel6 _
          go_wp2
          go_meet
          exact ⟨by rw [hbody.out]; exact hown6, by repeat (first | exact Below.refl _ _ | with_reducible assumption | (refine allocB ?_ (by first | omega | (simp; done) | (simp; omega)) _) | (refine Below.setCell ?_ (by first | omega | (simp; done) | (simp; omega)) _) | refine Below.drew ?_ | (refine Below.trans ?_ (Below.mono (by with_reducible assumption) (by first | omega | (simp; done) | (simp; omega)))))⟩
      · have hbody : bd = [byte tags.length] ++ tags.flatMap tagB := hbd
        replace hbody := hid hbody
        clear hbd
        go_wp2_with (at_builtin; go_loud (refine wpList_push rfl _ _ _ rfl (w.heap.size + 1) _ 1 1 byteC_flat elemByte hown rfl (byte tags.length) ?b rfl ?c1 ?c2 ?c3 ?c4))
        case b =>
          have e1 : (tags.length : Int) % 256 = tags.length := by omega
          simp [byteC, byte_val, e1]
        case c1 => rw [hl9]; decide
        case c2 => rw [hl9]; decide
        case c3 => omega
        case c4 =>
          intro v6 w6 hown6 hbel6 _
          have kb6 := kb.below hbel6 (by omega)
          have hnx6 := hnx.trans (hbel6.mono (by omega))
          have hz6 := hbel6.size
          have c3 := kb6.cell 3
          simp only [List.getElem?_toArray, List.getElem?_cons_zero, List.getElem?_cons_succ] at c3
          clear hown kb hbel6
          go_wp2
          go_loopw [5, 7, 8, 60] (fun s5 _ _ i wr => ∃ k : Nat, k ≤ tags.length ∧ i = .int .i64 k ∧ Wb.Own byteC (w.heap.size + 1) 5 1 wr s5 (hd ++ ([byte tags.length] ++ (tags.take k).flatMap tagB)) ∧ Below w.heap.size w wr ∧ w.heap.size + 1 ≤ wr.heap.size) (fun _ _ _ i _ => tags.length - (intOf i).toNat)
          case atStart => exact ⟨0, Nat.zero_le _, rfl, by simpa using hown6, hnx6, by omega⟩
          case round =>
            obtain ⟨k, hk, rfl, hown, hnx, hz⟩ := hrel
            by_cases hlt : k < tags.length
            · obtain ⟨b, off, rfl, d0, d1⟩ := RL.at2 (fun x => .int .i64 x.block) (fun x => .bool x.esc) (fun _ => rfl) (ht.out.below hnx) hlt
              have lt1 := World.block_lt_of_cell? _ _ d0
              dsimp only at lt1
              have hstep : tags.take (k + 1) = tags.take k ++ [tags[k]] := by rw [List.take_succ_eq_append_getElem hlt]
              have hln : (hd ++ ([byte tags.length] ++ (tags.take k).flatMap tagB)).length = 10 + k * 2 := by
                rw [List.length_append, List.length_append, hl9, tagBs_len, List.length_take, Nat.min_eq_left hk]; simp; omega
              have hjoin : ∀ x : Tag, tags[k] = x → (hd ++ ([byte tags.length] ++ (tags.take k).flatMap tagB)) ++ tagB x = hd ++ ([byte tags.length] ++ (tags.take (k + 1)).flatMap tagB) := by
                rintro x rfl
                rw [hstep, List.flatMap_append, List.flatMap_cons, List.flatMap_nil, List.append_nil]
                simp only [List.append_assoc]
              replace hjoin := hid (hjoin _ rfl)
              clear hstep
              have e1 := byte_val tags[k].block
              generalize hd ++ ([byte tags.length] ++ (tags.take k).flatMap tagB) = ls at *
              generalize tags[k] = x at *
              obtain ⟨xb, xe⟩ := x
              dsimp only at d0 d1
              have lt2 : w.heap.size + 1 ≤ wr.heap.size + 1 := by omega
              have tb : ∀ y : Bool, byteC (if y then 1 else 0) = [.int .u8 (if y then 1 else 0)] := fun y => by cases y <;> rfl
              cases xe
              · replace tb := hid (tb false)
                go_wp2_with (at_builtin; go_loud (refine wpList_pushN rfl _ _ _ rfl (w.heap.size + 1) _ 1 1 byteC_flat elemByte (hown.alloc _) rfl (tagB ⟨xb, false⟩) ?b rfl ?c1 ?c2 ?c3 ?c4))
                case b => simp [tagB, byteC, byte_val]
                all_goals try (case c1 => (try rw [hln]); show 10 + k * 2 + 2 ≤ _; omega)
                all_goals try (case c2 => (try rw [hln]); show 10 + k * 2 + 2 ≤ maxLen; unfold maxLen; omega)
                all_goals try (case c3 => simp; omega)
                case c4 =>
                  intro v7 w7 hown7 hbel7 _
                  rw [hjoin.out] at hown7
                  have hz7 := hbel7.size
                  go_wp2
                  go_roundw
                  case rel => exact ⟨k + 1, by omega, by go_num, hown7, (allocB hnx (by omega) _).trans (hbel7.mono (by omega)), by simp at hz7; omega⟩
                  case measure => simp [intOf]; omega
              · replace tb := hid (tb true)
                go_wp2_with (at_builtin; go_loud (refine wpList_pushN rfl _ _ _ rfl (w.heap.size + 1) _ 1 1 byteC_flat elemByte (hown.alloc _) rfl (tagB ⟨xb, true⟩) ?tb rfl ?tc1 ?tc2 ?tc3 ?tc4))
                case tb => simp [tagB, byteC, byte_val]
                all_goals try (case tc1 => (try rw [hln]); show 10 + k * 2 + 2 ≤ _; omega)
                all_goals try (case tc2 => (try rw [hln]); show 10 + k * 2 + 2 ≤ maxLen; unfold maxLen; omega)
                all_goals try (case tc3 => simp; omega)
                case tc4 =>
                  intro v7 w7 hown7 hbel7 _
                  rw [hjoin.out] at hown7
                  have hz7 := hbel7.size
                  go_wp2
                  go_roundw
                  case rel => exact ⟨k + 1, by omega, by go_num, hown7, (allocB hnx (by omega) _).trans (hbel7.mono (by omega)), by simp at hz7; omega⟩
                  case measure => simp [intOf]; omega
            · obtain rfl : k = tags.length := by omega
              rw [List.take_length] at hown
              go_wp2
              go_meet
              exact ⟨by rw [hbody.out]; exact hown, hnx⟩
      · have hbody : bd = [byte blks.length] ++ blks.map byte := hbd
        replace hbody := hid hbody
        clear hbd
        go_wp2_with (at_builtin; go_loud (refine wpList_push rfl _ _ _ rfl (w.heap.size + 1) _ 1 1 byteC_flat elemByte hown rfl (byte blks.length) ?kb rfl ?kc1 ?kc2 ?kc3 ?kc4))
        all_goals try (case kb =>
          have e1 : (blks.length : Int) % 256 = blks.length := by omega
          simp [byteC, byte_val, e1])
        all_goals try (case kc1 => rw [hl9]; decide)
        all_goals try (case kc2 => rw [hl9]; decide)
        all_goals try (case kc3 => omega)
        case kc4 =>
          intro v6 w6 hown6 hbel6 _
          have kb6 := kb.below hbel6 (by omega)
          have hnx6 := hnx.trans (hbel6.mono (by omega))
          have hz6 := hbel6.size
          have c4 := kb6.cell 4
          simp only [List.getElem?_toArray, List.getElem?_cons_zero, List.getElem?_cons_succ] at c4
          clear hown kb hbel6
          go_wp2
          go_loopw [5, 10, 86] (fun s5 _ i wr => ∃ k : Nat, k ≤ blks.length ∧ i = .int .i64 k ∧ Wb.Own byteC (w.heap.size + 1) 5 1 wr s5 (hd ++ ([byte blks.length] ++ (blks.take k).map byte)) ∧ Below w.heap.size w wr ∧ w.heap.size + 1 ≤ wr.heap.size) (fun _ _ i _ => blks.length - (intOf i).toNat)
          case atStart => exact ⟨0, Nat.zero_le _, rfl, by simpa using hown6, hnx6, by omega⟩
          case round =>
            obtain ⟨k, hk, rfl, hown, hnx, hz⟩ := hrel
            by_cases hlt : k < blks.length
            · obtain ⟨b, off, rfl, d0⟩ := RL.at1 (fun x => .int .i64 x) (fun _ => rfl) (hbk.out.below hnx) hlt
              have lt1 := World.block_lt_of_cell? _ _ d0
              dsimp only at lt1
              have hstep : blks.take (k + 1) = blks.take k ++ [blks[k]] := by rw [List.take_succ_eq_append_getElem hlt]
              have hln : (hd ++ ([byte blks.length] ++ (blks.take k).map byte)).length = 10 + k := by
                rw [List.length_append, List.length_append, hl9, List.length_map, List.length_take, Nat.min_eq_left hk]; simp; omega
              have hjoin : ∀ x : Int, blks[k] = x → (hd ++ ([byte blks.length] ++ (blks.take k).map byte)) ++ [byte x] = hd ++ ([byte blks.length] ++ (blks.take (k + 1)).map byte) := by
                rintro x rfl
                rw [hstep, List.map_append, List.map_cons, List.map_nil]
                simp only [List.append_assoc]
              replace hjoin := hid (hjoin _ rfl)
              clear hstep
              generalize hd ++ ([byte blks.length] ++ (blks.take k).map byte) = ls at *
              generalize blks[k] = x at *
              go_wp2_with (at_builtin; go_loud (refine wpList_push rfl _ _ _ rfl (w.heap.size + 1) _ 1 1 byteC_flat elemByte hown rfl (byte x) ?nb rfl ?nc1 ?nc2 ?nc3 ?nc4))
              all_goals try (case nb => simp [byteC, byte_val])
              all_goals try (case nc1 => (try rw [hln]); omega)
              all_goals try (case nc2 => (try rw [hln]); unfold maxLen; omega)
              all_goals try (case nc3 => omega)
              case nc4 =>
                  intro v7 w7 hown7 hbel7 _
                  rw [hjoin.out] at hown7
                  have hz7 := hbel7.size
                  go_wp2
                  go_roundw
                  case rel => exact ⟨k + 1, by omega, by go_num, hown7, hnx.trans (hbel7.mono (by omega)), by omega⟩
                  case measure => simp [intOf]; omega
            · obtain rfl : k = blks.length := by omega
              rw [List.take_length] at hown
              go_wp2
              go_meet
              exact ⟨by rw [hbody.out]; exact hown, hnx⟩
      · have hbody : bd = [] := hbd
        replace hbody := hid hbody
        clear hbd
        go_wp2
        go_meet
        exact ⟨by rw [hbody.out, List.append_nil]; exact hown, hnx⟩
    case rest =>
      obtain ⟨hown5, hnx5⟩ := hcut
      have hr5 := hown5.reads
      have hcv := run_toString (P := Tryd.prog) (src := 120) (dst := 9) _ Tryd.underlying120 Tryd.underlying5 Tryd.underlying9 hr5
      have hsz : (str (hd ++ bd)).size ≤ 9223372036854775807 := by
        obtain ⟨_, _, _, q1, q2⟩ := hr5.form
        rw [str_size]; unfold maxLen at q2; omega
      replace hfit := hid hfit
      generalize str (hd ++ bd) = sb at *
      replace hr5 := hid hr5
      go_wp2_with (go_at_call 68; refine (hFt.out _ _ hsz).mono ?_; rintro e w1 ⟨rfl, hb1⟩)
      go_ret2
      exact ⟨ret_st hfit.out.out, hnx5.trans (hb1.mono hnx5.size)⟩
  · have hS : markS m = str [] := by unfold markS; rw [if_neg hE]
    rw [hS]
    have hne : (markE m != 0) = true := bne_iff_ne.2 hE
    generalize markE m = er at *
    replace hG := hid hG
    replace hm2 := hid hm2
    obtain ⟨kd, sq, at_, tags, blks⟩ := m
    dsimp only at *
    clear hS hE ht hbk
    go_enter Tryd.func38, Tryd.ntmps38
    go_wp2_with (go_at_call 67; refine (hG.out _ (hm2.out.below (by repeat (first | exact Below.refl _ _ | with_reducible assumption | (refine allocB ?_ (by first | omega | (simp; done) | (simp; omega)) _) | (refine Below.setCell ?_ (by first | omega | (simp; done) | (simp; omega)) _) | refine Below.drew ?_ | (refine Below.trans ?_ (Below.mono (by with_reducible assumption) (by first | omega | (simp; done) | (simp; omega)))))))).mono ?_; rintro e w1 ⟨rfl, hb1⟩; obtain ⟨hbc, hbf⟩ := bcell hb1; have hbz := hb1.size; try simp only [World.size_alloc, World.size_setCell, World.size_drew] at hbz; have hz0 := Nat.lt_of_lt_of_le (n := w.heap.size) (by omega) hbz)
    go_ret2
    exact ⟨rfl, by repeat (first | exact Below.refl _ _ | with_reducible assumption | (refine allocB ?_ (by first | omega | (simp; done) | (simp; omega)) _) | (refine Below.setCell ?_ (by first | omega | (simp; done) | (simp; omega)) _) | refine Below.drew ?_ | (refine Below.trans ?_ (Below.mono (by with_reducible assumption) (by first | omega | (simp; done) | (simp; omega)))))⟩
end Go.Proofs.YtjhmfljlclajnabDoor

namespace Wb
open Go Go.RowKit
theorem superM_read (w : World) (q p : Int) : RMark w (.agg #[.int .i64 1, .int .i64 q, .int .i64 p, .slice none 0 0, .slice none 0 0]) (superM q p) :=
  ⟨_, _, rfl, RL.nil _ _, RL.nil _ _, Nat.zero_le _, Nat.zero_le _⟩
theorem checkE_bad {l : List Cpy} {p q : Int} (h : markE (superM q p) ≠ 0) : checkE l p q = markE (superM q p) ∧ checkL l p q = [] := by
  have e : checkE l p q = markE (superM q p) := by unfold checkE; rw [if_pos h]
  exact ⟨e, by unfold checkL; rw [e, if_neg h]⟩
theorem checkE_form {l : List Cpy} {p q : Int} (h : markE (superM q p) = 0) {k : Nat} (hk : k < l.length) (hc : cpyOk l[k] = false) : checkE l p q = 1 ∧ checkL l p q = [] := by
  have hn : ¬ l.all cpyOk = true := fun hh => by
    have := List.all_eq_true.1 hh _ (List.getElem_mem hk)
    rw [hc] at this; cases this
  have e : checkE l p q = 1 := by unfold checkE; rw [if_neg (by rw [h]; decide), if_neg hn]
  exact ⟨e, by unfold checkL; rw [e, if_neg (by decide)]⟩
theorem checkE_ok {l : List Cpy} {p q : Int} (h : markE (superM q p) = 0) (hc : l.all cpyOk = true) : checkE l p q = 0 ∧ checkL l p q = homeS l ++ [wrS 0 (markS (superM q p)), flushS] := by
  have e : checkE l p q = 0 := by unfold checkE; rw [if_neg (by rw [h]; decide), if_pos hc]
  exact ⟨e, by unfold checkL; rw [if_pos e]⟩
theorem all_take {α : Type} {p : α → Bool} {l : List α} {k : Nat} (hk : k < l.length) (h : (l.take k).all p = true) (hc : p l[k] = true) : (l.take (k + 1)).all p = true := by
  rw [List.take_succ_eq_append_getElem hk, List.all_append, h]
  simp [hc]
theorem map_take {α β : Type} {f : α → β} {l : List α} {k : Nat} (hk : k < l.length) : (l.take (k + 1)).map f = (l.take k).map f ++ [f l[k]] := by
  rw [List.take_succ_eq_append_getElem hk, List.map_append]; rfl
theorem room2 {n m : Nat} (h : n = m) (hm : m ≤ 6000000000000) : (n + 2 + (n + 2) / 4 + 192) * 32 ≤ 281474976710656 ∧ n + 2 ≤ 140737488355328 := by subst h; omega
theorem cpyOk_iff (c : Cpy) : cpyOk c = true ↔ (0 ≤ c.block ∧ c.block < 12) ∧ c.text.size = 32 := by
  unfold cpyOk isBlk ok32; simp
end Wb
namespace Go.Proofs.YtjhmfljlclajnabDoor
open Go.RowKit Wb
set_option linter.unusedVariables false
set_option linter.unusedSimpArgs false
set_option maxRecDepth 100000
set_option maxHeartbeats 8000000
theorem seal_Check (l : List Cpy) (p q : Int) (v : Value) (w : World) (h : RL cpyC w v l) (hl : l.length ≤ 5864062014805) (hF : Sl w (flR 0).v 1 (flR 0).cs) :
    Calls Tryd.prog 17 #[v, .int .i64 p, .int .i64 q] w fun e w' => ∃ v', e = .returned (.tuple #[v', .int .i64 (checkE l p q)]) ∧ Wb.Own stpC w.heap.size 76 3 w' v' (checkL l p q) ∧ Below w.heap.size w w' := by
  obtain ⟨a, cap, rfl, _⟩ := h.form
  have hE := fun w => stamp_Encode (superM q p) _ w (superM_read w q p)
  have hW := fun x s w => seal_write x s w
  have X : St [] w w [] [flR 0] := (St.start [] w).addR0 hF
  replace hE := hid hE; replace hW := hid hW
  by_cases hM : markE (superM q p) = 0
  · rw [hM] at hE
    have hbad := fun k (hk : k < l.length) (hc : cpyOk l[k] = false) => checkE_form hM hk hc
    have hok := fun (hc : l.all cpyOk = true) => checkE_ok hM hc
    have hat := fun k (hk : k < l.length) (h : (l.take k).all cpyOk = true) (hc : cpyOk l[k] = true) => all_take hk h hc
    have hmt := fun k (hk : k < l.length) => map_take (f := goS) hk
    have hfu : l.take l.length = l := List.take_length
    have hho : homeS l = l.map goS ++ (if l = [] then [] else [flushS]) := rfl
    have hnil : (l = []) ↔ l.length = 0 := List.length_eq_zero_iff.symm
    rw [hho] at hok
    generalize checkE l p q = E at *
    generalize checkL l p q = C at *
    generalize markS (superM q p) = ms at *
    replace h := hid h; replace hbad := hid hbad; replace hok := hid hok; replace hat := hid hat; replace hmt := hid hmt; replace hfu := hid hfu; replace hnil := hid hnil
    clear hho hM hF
    go_enter Tryd.func17, Tryd.ntmps17
    go_wp2_with (first
      | (go_at_call 38; go_loud ((with_reducible refine (hE.out _).mono ?_); rintro e w1 ⟨rfl, hb1⟩; replace X := X.call hb1; clear hb1)))
    go_loopw [10, 25] (fun o i wr => ∃ (k : Nat) (M : List Ent), k ≤ l.length ∧ i = .int .i64 k ∧ Hid ((l.take k).all cpyOk = true) ∧ OwnM stpC 76 3 o ((l.take k).map goS) M ∧ St [] w wr (M ++ []) [flR 0]) (fun _ i _ => l.length - (intOf i).toNat)
    case atStart => exact ⟨0, [], Nat.zero_le _, rfl, hid rfl, OwnM.nil _ _ _, X⟩
    case round =>
      clear X
      obtain ⟨k, M, hk, rfl, hal, hO, X⟩ := hrel
      have hlk : ((l.take k).map goS).length = k := by rw [List.length_map, List.length_take]; omega
      obtain ⟨ao, co, rfl⟩ := hO.form
      rw [hlk] at hO ⊢
      by_cases hlt : k < l.length
      · obtain ⟨b1, o1, rfl, c0, c1⟩ := RL.at2 (fun x => .int .i64 x.block) (fun x => .string x.text) (fun _ => rfl) (h.out.below X.below) hlt
        have hb := hbad.out k hlt
        have ha := hat.out k hlt hal.out
        have hm := hmt.out k hlt
        generalize l[k] = x at *
        generalize (l.take k).map goS = ls at *
        obtain ⟨xb, xt⟩ := x
        dsimp only at *
        have hci := cpyOk_iff ⟨xb, xt⟩
        dsimp only at hci
        cases hc : cpyOk ⟨xb, xt⟩ with
        | true =>
          obtain ⟨⟨y0, y1⟩, y2⟩ := hci.1 hc
          have ha := ha hc
          replace ha := hid ha; replace hm := hid hm
          have y3 : ((xt.size : Int) != 32) = false := by rw [y2]; rfl
          have d1 : decide (xb < 0) = false := decide_eq_false (by omega)
          have d2 : decide (12 ≤ xb) = false := decide_eq_false (by omega)
          clear hci hc hb
          have hr1 : (ls.length + 1 + (ls.length + 1) / 4 + 192) * 32 ≤ 281474976710656 := by omega
          have hr2 : ls.length + 1 ≤ 140737488355328 := by omega
          have hgo : [goS ⟨xb, xt⟩].flatMap stpC = [.int .i64 1, .int .i64 (25 + xb), .string xt] := rfl
          go_wp2_with (first
            | (refine at_mem rfl ?_; (first | (refine at_load rfl ?_; (first | (refine c_load1 rfl _ _ rfl rfl X (by repeat (first | exact ReadA.here rfl | apply ReadA.there)) ?_) | (refine c_loadN rfl _ _ rfl rfl X (by repeat (first | exact ReadB.here (Nat.le_of_ble_eq_true rfl) | apply ReadB.there)) ?_))) | (refine at_store rfl ?_; (first | (refine c_store1 rfl _ _ _ rfl rfl (by first | exact EvR.const _ | exact EvR.tmp rfl rfl) X rfl rfl (by repeat (first | exact PutA.here (Nat.le_of_ble_eq_true rfl) | apply PutA.there)) ?_; intro w X2; (try simp only [upd] at X2); replace X := X2; clear X2) | (refine c_storeN rfl _ _ _ rfl rfl rfl X rfl rfl (by repeat (first | exact PutA.here (Nat.le_of_ble_eq_true rfl) | apply PutA.there)) ?_; intro w X2; (try simp only [upd] at X2); replace X := X2; clear X2))) | (refine m_alloc rfl _ rfl X ?_; intro g w X2; (replace X := X2; clear X2)) | (refine m_box rfl _ _ rfl (by first | exact EvR.const _ | exact EvR.tmp rfl rfl) rfl X ?_; intro g w X2; (replace X := X2; clear X2))); (simp only [Act.put, List.setIfInBounds_toArray, List.set_cons_succ, List.set_cons_zero, List.drop_succ_cons, List.drop_zero, List.take_succ_cons, List.take_zero, Nat.reduceAdd]))
            | (go_at_call 35; go_loud ((with_reducible refine (hW.out _ _ _).mono ?_); rintro e w1 ⟨rfl, hb1⟩; replace X := X.call hb1; clear hb1))
            | (refine at_build rfl ?_; go_loud (refine m_build1 rfl rfl (by first | exact EvR.const _ | exact EvR.tmp rfl rfl) (by rfl) (by rfl) X ?_; intro g w2 X2; replace X := X2; clear X2; (simp only [Act.put, List.setIfInBounds_toArray, List.set_cons_succ, List.set_cons_zero, List.drop_succ_cons, List.drop_zero, List.take_succ_cons, List.take_zero, Nat.reduceAdd])))
            | (at_builtin; go_loud ((refine m_appB (M := M) (T := []) (n := 1) [_] rfl rfl [goS ⟨xb, xt⟩] stpC_flat X hO (by first | exact EvR.const _ | exact EvR.tmp rfl rfl) (by first | exact EvR.const _ | exact EvR.tmp rfl rfl) hgo rfl hr1 hr2 ?_); intro a2 c2 w2 M2 hO2 X2; (simp only [Act.put, List.setIfInBounds_toArray, List.set_cons_succ, List.set_cons_zero, List.drop_succ_cons, List.drop_zero, List.take_succ_cons, List.take_zero, Nat.reduceAdd]))))
          rw [hlk]
          go_roundw
          case rel => exact ⟨k + 1, M2, by omega, by go_num, ha, by rw [hm.out, ← hlk]; exact hO2, X2.tail⟩
          case measure => simp [intOf]; omega
        | false =>
          obtain ⟨e1, e2⟩ := hb hc
          subst e1 e2
          have hn : ¬ ((0 ≤ xb ∧ xb < 12) ∧ xt.size = 32) := fun h => by rw [hci.2 h] at hc; cases hc
          clear hci hc hb ha hm
          by_cases z1 : xb < 0
          · have d1 : decide (xb < 0) = true := decide_eq_true z1
            go_wp2_with (first
              | (refine at_mem rfl ?_; (first | (refine at_load rfl ?_; (first | (refine c_load1 rfl _ _ rfl rfl X (by repeat (first | exact ReadA.here rfl | apply ReadA.there)) ?_) | (refine c_loadN rfl _ _ rfl rfl X (by repeat (first | exact ReadB.here (Nat.le_of_ble_eq_true rfl) | apply ReadB.there)) ?_))) | (refine at_store rfl ?_; (first | (refine c_store1 rfl _ _ _ rfl rfl (by first | exact EvR.const _ | exact EvR.tmp rfl rfl) X rfl rfl (by repeat (first | exact PutA.here (Nat.le_of_ble_eq_true rfl) | apply PutA.there)) ?_; intro w X2; (try simp only [upd] at X2); replace X := X2; clear X2) | (refine c_storeN rfl _ _ _ rfl rfl rfl X rfl rfl (by repeat (first | exact PutA.here (Nat.le_of_ble_eq_true rfl) | apply PutA.there)) ?_; intro w X2; (try simp only [upd] at X2); replace X := X2; clear X2))) | (refine m_alloc rfl _ rfl X ?_; intro g w X2; (replace X := X2; clear X2)) | (refine m_box rfl _ _ rfl (by first | exact EvR.const _ | exact EvR.tmp rfl rfl) rfl X ?_; intro g w X2; (replace X := X2; clear X2))); (simp only [Act.put, List.setIfInBounds_toArray, List.set_cons_succ, List.set_cons_zero, List.drop_succ_cons, List.drop_zero, List.take_succ_cons, List.take_zero, Nat.reduceAdd])))
            go_ret2
            exact ⟨_, rfl, Own.nil _ _ _ _ _, X.below⟩
          · have d1 : decide (xb < 0) = false := decide_eq_false z1
            by_cases z2 : 12 ≤ xb
            · have d2 : decide (12 ≤ xb) = true := decide_eq_true z2
              go_wp2_with (first
                | (refine at_mem rfl ?_; (first | (refine at_load rfl ?_; (first | (refine c_load1 rfl _ _ rfl rfl X (by repeat (first | exact ReadA.here rfl | apply ReadA.there)) ?_) | (refine c_loadN rfl _ _ rfl rfl X (by repeat (first | exact ReadB.here (Nat.le_of_ble_eq_true rfl) | apply ReadB.there)) ?_))) | (refine at_store rfl ?_; (first | (refine c_store1 rfl _ _ _ rfl rfl (by first | exact EvR.const _ | exact EvR.tmp rfl rfl) X rfl rfl (by repeat (first | exact PutA.here (Nat.le_of_ble_eq_true rfl) | apply PutA.there)) ?_; intro w X2; (try simp only [upd] at X2); replace X := X2; clear X2) | (refine c_storeN rfl _ _ _ rfl rfl rfl X rfl rfl (by repeat (first | exact PutA.here (Nat.le_of_ble_eq_true rfl) | apply PutA.there)) ?_; intro w X2; (try simp only [upd] at X2); replace X := X2; clear X2))) | (refine m_alloc rfl _ rfl X ?_; intro g w X2; (replace X := X2; clear X2)) | (refine m_box rfl _ _ rfl (by first | exact EvR.const _ | exact EvR.tmp rfl rfl) rfl X ?_; intro g w X2; (replace X := X2; clear X2))); (simp only [Act.put, List.setIfInBounds_toArray, List.set_cons_succ, List.set_cons_zero, List.drop_succ_cons, List.drop_zero, List.take_succ_cons, List.take_zero, Nat.reduceAdd])))
              go_ret2
              exact ⟨_, rfl, Own.nil _ _ _ _ _, X.below⟩
            · have d2 : decide (12 ≤ xb) = false := decide_eq_false z2
              have y3 : ((xt.size : Int) != 32) = true := bne_iff_ne.2 (fun h => hn ⟨by omega, by omega⟩)
              clear hn
              go_wp2_with (first
                | (refine at_mem rfl ?_; (first | (refine at_load rfl ?_; (first | (refine c_load1 rfl _ _ rfl rfl X (by repeat (first | exact ReadA.here rfl | apply ReadA.there)) ?_) | (refine c_loadN rfl _ _ rfl rfl X (by repeat (first | exact ReadB.here (Nat.le_of_ble_eq_true rfl) | apply ReadB.there)) ?_))) | (refine at_store rfl ?_; (first | (refine c_store1 rfl _ _ _ rfl rfl (by first | exact EvR.const _ | exact EvR.tmp rfl rfl) X rfl rfl (by repeat (first | exact PutA.here (Nat.le_of_ble_eq_true rfl) | apply PutA.there)) ?_; intro w X2; (try simp only [upd] at X2); replace X := X2; clear X2) | (refine c_storeN rfl _ _ _ rfl rfl rfl X rfl rfl (by repeat (first | exact PutA.here (Nat.le_of_ble_eq_true rfl) | apply PutA.there)) ?_; intro w X2; (try simp only [upd] at X2); replace X := X2; clear X2))) | (refine m_alloc rfl _ rfl X ?_; intro g w X2; (replace X := X2; clear X2)) | (refine m_box rfl _ _ rfl (by first | exact EvR.const _ | exact EvR.tmp rfl rfl) rfl X ?_; intro g w X2; (replace X := X2; clear X2))); (simp only [Act.put, List.setIfInBounds_toArray, List.set_cons_succ, List.set_cons_zero, List.drop_succ_cons, List.drop_zero, List.take_succ_cons, List.take_zero, Nat.reduceAdd])))
              go_ret2
              exact ⟨_, rfl, Own.nil _ _ _ _ _, X.below⟩
      · have hkl : k = l.length := by omega
        have hts : l.take k = l := by rw [hkl, List.take_length]
        obtain ⟨e1, e2⟩ := hok.out (by rw [← hts]; exact hal.out)
        have e3 : C = (l.take k).map goS ++ (if k = 0 then [] else [flushS]) ++ [wrS 0 ms, flushS] := by
          rw [e2, hts]
          by_cases hz : l = []
          · rw [if_pos hz, if_pos (by rw [hkl]; exact hnil.out.1 hz)]
          · rw [if_neg hz, if_neg (fun h => hz (hnil.out.2 (by omega)))]
        clear hal hbad hok hat hmt e2 hts hnil hfu
        generalize (l.take k).map goS = ls at *
        have hfl : [wrS 0 ms, flushS].flatMap stpC = [.int .i64 1, .int .i64 0, .string ms, .int .i64 2, .int .i64 0, .string ⟨#[]⟩] := rfl
        have hli : ((k : Int) < (l.length : Int)) = False := eq_false (by omega)
        by_cases hz : k = 0
        · rw [if_pos hz] at e3
          have hzi : decide (0 < k) = false := decide_eq_false (by omega)
          have hr3 : (ls.length + 2 + (ls.length + 2) / 4 + 192) * 32 ≤ 281474976710656 := by omega
          have hr4 : ls.length + 2 ≤ 140737488355328 := by omega
          clear hz
          replace e3 := hid e3
          replace hkl := hid hkl
          go_wp2
          (refine q_start 0 [] [2, 4, 5] [3] [0, 1, 3, 2, 4, 5, 6, 7] X (by kernel_rfl) (by kernel_rfl) (fun _ _ _ _ _ h => h) ?_; intro hQ X2 hL; replace X := X2; clear X2; simp only [List.take_succ_cons, List.take_zero] at hL; simp only [List.take_succ_cons, List.take_zero])
          (refine q_move rfl rfl (by first | exact EvR.const _ | exact EvR.tmp rfl rfl) rfl rfl hQ ?_; (simp only [Act.put, List.setIfInBounds_toArray, List.set_cons_succ, List.set_cons_zero, List.drop_succ_cons, List.drop_zero, List.take_succ_cons, List.take_zero, Nat.reduceAdd]))
          (refine q_move rfl rfl (by first | exact EvR.const _ | exact EvR.tmp rfl rfl) rfl rfl hQ ?_; (simp only [Act.put, List.setIfInBounds_toArray, List.set_cons_succ, List.set_cons_zero, List.drop_succ_cons, List.drop_zero, List.take_succ_cons, List.take_zero, Nat.reduceAdd]))
          (refine q_rd0 rfl rfl rfl (by repeat (first | exact .head _ | apply List.Mem.tail)) (by rfl) rfl rfl X hL hQ ?_; (simp only [Act.put, List.setIfInBounds_toArray, List.set_cons_succ, List.set_cons_zero, List.drop_succ_cons, List.drop_zero, List.take_succ_cons, List.take_zero, Nat.reduceAdd]))
          (refine q_call 35 _ _ rfl rfl _ rfl ⟨_, _, Tryd.func35, by kernel_rfl, rfl⟩ rfl rfl (hW.out _ _ _) ?_; rintro e w1 ⟨rfl, hb1⟩; replace X := X.call hb1; clear hb1; (have hL2 := X.und (by first | exact hL | exact hL.up | exact hL.up3 | exact hL.up.up); replace hL := hL2; clear hL2); refine ⟨_, rfl, fun _ _ => X.keeps hL, ?_⟩; (simp only [Act.put, List.setIfInBounds_toArray, List.set_cons_succ, List.set_cons_zero, List.drop_succ_cons, List.drop_zero, List.take_succ_cons, List.take_zero, Nat.reduceAdd]))
          (refine q_build2 rfl rfl (by first | exact EvR.const _ | exact EvR.tmp rfl rfl) (by first | exact EvR.const _ | exact EvR.tmp rfl rfl) (by rfl) (by rfl) (by rfl) (by rfl) X hL rfl rfl ?_; intro g w X2 hL2; (try simp only [List.cons_append, List.nil_append] at X2 hL2); replace X := X2; replace hL := hL2; clear X2 hL2; (simp only [Act.put, List.setIfInBounds_toArray, List.set_cons_succ, List.set_cons_zero, List.drop_succ_cons, List.drop_zero, List.take_succ_cons, List.take_zero, Nat.reduceAdd]))
          (refine q_appB (M := M) (T := []) (n := 2) [] rfl rfl [wrS 0 ms, flushS] stpC_flat X hO (by first | exact EvR.const _ | exact EvR.tmp rfl rfl) (by first | exact EvR.const _ | exact EvR.tmp rfl rfl) hfl rfl hr3 hr4 hL (List.nil_sublist _) rfl rfl ?_; intro a3 c3 w3 M3 hO3 X3 hL3; replace X := X3; replace hL := hL3; clear X3 hL3; (simp only [Act.put, List.setIfInBounds_toArray, List.set_cons_succ, List.set_cons_zero, List.drop_succ_cons, List.drop_zero, List.take_succ_cons, List.take_zero, Nat.reduceAdd]))
          (refine q_assign rfl rfl (by first | exact EvR.const _ | exact EvR.tmp rfl rfl) rfl rfl hQ ?_; (simp only [Act.put, List.setIfInBounds_toArray, List.set_cons_succ, List.set_cons_zero, List.drop_succ_cons, List.drop_zero, List.take_succ_cons, List.take_zero, Nat.reduceAdd]))
          (refine q_assign rfl rfl (by first | exact EvR.const _ | exact EvR.tmp rfl rfl) rfl rfl hQ ?_; (simp only [Act.put, List.setIfInBounds_toArray, List.set_cons_succ, List.set_cons_zero, List.drop_succ_cons, List.drop_zero, List.take_succ_cons, List.take_zero, Nat.reduceAdd]))
          refine q_nil ?_
          go_wp2
          go_ret2
          subst e1
          exact ⟨_, rfl, by rw [e3.out, List.append_nil]; exact hO3.own (L := []) stpC_flat X, X.below⟩
        · rw [if_neg hz] at e3
          have hzi : decide (0 < k) = true := decide_eq_true (by omega)
          have hr1 : (ls.length + 1 + (ls.length + 1) / 4 + 192) * 32 ≤ 281474976710656 := by omega
          have hr2 : ls.length + 1 ≤ 140737488355328 := by omega
          have hlf : (ls ++ [flushS]).length = k + 1 := by rw [List.length_append, hlk]; rfl
          obtain ⟨hr3, hr4⟩ := room2 hlf (by omega)
          have hgo : [flushS].flatMap stpC = [.int .i64 2, .int .i64 0, .string ⟨#[]⟩] := rfl
          clear hz hlf
          replace e3 := hid e3
          replace hkl := hid hkl
          go_wp2_with (first
            | (refine at_mem rfl ?_; refine m_rd0 rfl rfl rfl X (by repeat (first | exact .head _ | apply List.Mem.tail)) (by rfl) ?_; (simp only [Act.put, List.setIfInBounds_toArray, List.set_cons_succ, List.set_cons_zero, List.drop_succ_cons, List.drop_zero, List.take_succ_cons, List.take_zero, Nat.reduceAdd]))
            | (refine at_build rfl ?_; go_loud (refine m_build1 rfl rfl (by first | exact EvR.const _ | exact EvR.tmp rfl rfl) (by rfl) (by rfl) X ?_; intro g w2 X2; replace X := X2; clear X2; (simp only [Act.put, List.setIfInBounds_toArray, List.set_cons_succ, List.set_cons_zero, List.drop_succ_cons, List.drop_zero, List.take_succ_cons, List.take_zero, Nat.reduceAdd])))
            | (at_builtin; go_loud ((refine m_appB (M := M) (T := []) (n := 1) [] rfl rfl [flushS] stpC_flat X hO (by first | exact EvR.const _ | exact EvR.tmp rfl rfl) (by first | exact EvR.const _ | exact EvR.tmp rfl rfl) hgo rfl hr1 hr2 ?_); intro a2 c2 w2 M2 hO2 X2; replace X := X2; clear X2; (simp only [Act.put, List.setIfInBounds_toArray, List.set_cons_succ, List.set_cons_zero, List.drop_succ_cons, List.drop_zero, List.take_succ_cons, List.take_zero, Nat.reduceAdd]))))
          (refine q_start 0 [] [2, 4, 5] [3] [0, 1, 3, 2, 4, 5, 6, 7] X (by kernel_rfl) (by kernel_rfl) (fun _ _ _ _ _ h => h) ?_; intro hQ X2 hL; replace X := X2; clear X2; simp only [List.take_succ_cons, List.take_zero] at hL; simp only [List.take_succ_cons, List.take_zero])
          (refine q_move rfl rfl (by first | exact EvR.const _ | exact EvR.tmp rfl rfl) rfl rfl hQ ?_; (simp only [Act.put, List.setIfInBounds_toArray, List.set_cons_succ, List.set_cons_zero, List.drop_succ_cons, List.drop_zero, List.take_succ_cons, List.take_zero, Nat.reduceAdd]))
          (refine q_move rfl rfl (by first | exact EvR.const _ | exact EvR.tmp rfl rfl) rfl rfl hQ ?_; (simp only [Act.put, List.setIfInBounds_toArray, List.set_cons_succ, List.set_cons_zero, List.drop_succ_cons, List.drop_zero, List.take_succ_cons, List.take_zero, Nat.reduceAdd]))
          (refine q_rd0 rfl rfl rfl (by repeat (first | exact .head _ | apply List.Mem.tail)) (by rfl) rfl rfl X hL hQ ?_; (simp only [Act.put, List.setIfInBounds_toArray, List.set_cons_succ, List.set_cons_zero, List.drop_succ_cons, List.drop_zero, List.take_succ_cons, List.take_zero, Nat.reduceAdd]))
          (refine q_call 35 _ _ rfl rfl _ rfl ⟨_, _, Tryd.func35, by kernel_rfl, rfl⟩ rfl rfl (hW.out _ _ _) ?_; rintro e w1 ⟨rfl, hb1⟩; replace X := X.call hb1; clear hb1; (have hL2 := X.und (by first | exact hL | exact hL.up | exact hL.up3 | exact hL.up.up); replace hL := hL2; clear hL2); refine ⟨_, rfl, fun _ _ => X.keeps hL, ?_⟩; (simp only [Act.put, List.setIfInBounds_toArray, List.set_cons_succ, List.set_cons_zero, List.drop_succ_cons, List.drop_zero, List.take_succ_cons, List.take_zero, Nat.reduceAdd]))
          (refine q_build2 rfl rfl (by first | exact EvR.const _ | exact EvR.tmp rfl rfl) (by first | exact EvR.const _ | exact EvR.tmp rfl rfl) (by rfl) (by rfl) (by rfl) (by rfl) X hL rfl rfl ?_; intro g w X2 hL2; (try simp only [List.cons_append, List.nil_append] at X2 hL2); replace X := X2; replace hL := hL2; clear X2 hL2; (simp only [Act.put, List.setIfInBounds_toArray, List.set_cons_succ, List.set_cons_zero, List.drop_succ_cons, List.drop_zero, List.take_succ_cons, List.take_zero, Nat.reduceAdd]))
          (refine q_appB (M := M2) (T := []) (n := 2) [] rfl rfl [wrS 0 ms, flushS] stpC_flat X hO2 (by first | exact EvR.const _ | exact EvR.tmp rfl rfl) (by first | exact EvR.const _ | exact EvR.tmp rfl rfl) hfl rfl hr3 hr4 hL (List.nil_sublist _) rfl rfl ?_; intro a3 c3 w3 M3 hO3 X3 hL3; replace X := X3; replace hL := hL3; clear X3 hL3; (simp only [Act.put, List.setIfInBounds_toArray, List.set_cons_succ, List.set_cons_zero, List.drop_succ_cons, List.drop_zero, List.take_succ_cons, List.take_zero, Nat.reduceAdd]))
          (refine q_assign rfl rfl (by first | exact EvR.const _ | exact EvR.tmp rfl rfl) rfl rfl hQ ?_; (simp only [Act.put, List.setIfInBounds_toArray, List.set_cons_succ, List.set_cons_zero, List.drop_succ_cons, List.drop_zero, List.take_succ_cons, List.take_zero, Nat.reduceAdd]))
          (refine q_assign rfl rfl (by first | exact EvR.const _ | exact EvR.tmp rfl rfl) rfl rfl hQ ?_; (simp only [Act.put, List.setIfInBounds_toArray, List.set_cons_succ, List.set_cons_zero, List.drop_succ_cons, List.drop_zero, List.take_succ_cons, List.take_zero, Nat.reduceAdd]))
          refine q_nil ?_
          go_wp2
          go_ret2
          subst e1
          exact ⟨_, rfl, by rw [e3.out]; exact hO3.own (L := []) stpC_flat X, X.below⟩
  · obtain ⟨e1, e2⟩ := checkE_bad (l := l) hM
    rw [e1, e2]
    generalize markE (superM q p) = E at *
    have hne : (E != 0) = true := bne_iff_ne.2 hM
    clear hF h
    go_enter Tryd.func17, Tryd.ntmps17
    go_wp2_with (first
      | (go_at_call 38; go_loud ((with_reducible refine (hE.out _).mono ?_); rintro e w1 ⟨rfl, hb1⟩; replace X := X.call hb1; clear hb1)))
    go_ret2
    exact ⟨_, rfl, Own.nil _ _ _ _ _, X.below⟩
end Go.Proofs.YtjhmfljlclajnabDoor

namespace Go.Proofs.YtjhmfljlclajnabDoor
open Go.RowKit Wb
set_option linter.unusedVariables false
set_option linter.unusedSimpArgs false
set_option maxRecDepth 100000
set_option maxHeartbeats 8000000
theorem seal_log (s : ByteArray) (p : Int) (hp : 0 ≤ p ∧ p < 24) {S : List Nat} {w0 w : World} {A M T : List Ent} {R : List Rd} {g12 g10 ga k m c n n' cap : Nat} {cs : List Value} {v : Value} {l : List Stp}
    (X : St S w0 w (⟨g12, [v], 32⟩ :: ⟨g10, [.slice (some ⟨ga, k, none⟩) m c], 25⟩ :: (A ++ (M ++ T))) R) (hO : OwnM stpC 76 3 v l M) (hR : ⟨.slice (some ⟨ga, 0, none⟩) n' cap, n, cs⟩ ∈ R) (hk : cs[k]? = some (.int .i64 p)) (hm : 0 < m) (hmc : m ≤ c) (hl : l.length ≤ 1000) :
    Calls Tryd.prog 36 #[.string s, .pointer (some ⟨g12, 0, none⟩), .pointer (some ⟨g10, 0, none⟩)] w fun e w' => ∃ u v' at' M', e = .returned u ∧ OwnM stpC 76 3 v' (l ++ [atW p s]) M' ∧ (1 < m → at' = .slice (some ⟨ga, k + 1, none⟩) (m - 1) (c - 1)) ∧
      St S w0 w' (⟨g12, [v'], 32⟩ :: ⟨g10, [at'], 25⟩ :: (A ++ (M' ++ T))) R := by
  obtain ⟨hp0, hp1⟩ := hp
  have hW := fun x s w => seal_write x s w
  have hgo : [atW p s].flatMap stpC = [.int .i64 1, .int .i64 (1 + p), .string s] := rfl
  have h40 : l.length + 1 ≤ 1099511627776 := by omega
  obtain ⟨ao, co, rfl⟩ := hO.form
  have m1 : 1 ≤ m := hm
  have c1 : 1 ≤ c := by omega
  have hwr : IntKind.i64.wrap (1 + p) = 1 + p := IntWalk.i64_in _ (by omega)
  replace hW := hid hW
  go_enter Tryd.func36, Tryd.ntmps36
  go_wp2
  (refine q_start 2 [9] [6, 7, 8, 9] [0, 1, 3] [0, 1, 2, 3, 4, 5, 6, 7, 8, 9] X (by kernel_rfl) (by kernel_rfl) (fun _ _ _ _ _ h => h) ?_; intro hQ X2 hL; replace X := X2; clear X2; simp only [List.take_succ_cons, List.take_zero] at hL; simp only [List.take_succ_cons, List.take_zero])
  ((first | (refine d_load1 rfl rfl (by first | exact EvR.const _ | exact EvR.tmp rfl rfl) (by repeat (first | exact ReadA.here rfl | apply ReadA.there)) rfl rfl X hL hQ ?_) | (refine d_loadN rfl rfl (by first | exact EvR.const _ | exact EvR.tmp rfl rfl) (by repeat (first | exact ReadB.here (Nat.le_of_ble_eq_true rfl) | apply ReadB.there)) rfl rfl X hL hQ ?_)); (simp only [Act.put, List.setIfInBounds_toArray, List.set_cons_succ, List.set_cons_zero, List.drop_succ_cons, List.drop_zero, List.take_succ_cons, List.take_zero, Nat.reduceAdd]))
  ((first | (refine d_load1 rfl rfl (by first | exact EvR.const _ | exact EvR.tmp rfl rfl) (by repeat (first | exact ReadA.here rfl | apply ReadA.there)) rfl rfl X hL hQ ?_) | (refine d_loadN rfl rfl (by first | exact EvR.const _ | exact EvR.tmp rfl rfl) (by repeat (first | exact ReadB.here (Nat.le_of_ble_eq_true rfl) | apply ReadB.there)) rfl rfl X hL hQ ?_)); (simp only [Act.put, List.setIfInBounds_toArray, List.set_cons_succ, List.set_cons_zero, List.drop_succ_cons, List.drop_zero, List.take_succ_cons, List.take_zero, Nat.reduceAdd]))
  (apply q_pure rfl rfl rfl hQ; (case hv => (intro w'; (try go_simp); (try exact rfl))); (simp only [Act.put, List.setIfInBounds_toArray, List.set_cons_succ, List.set_cons_zero, List.drop_succ_cons, List.drop_zero, List.take_succ_cons, List.take_zero, Nat.reduceAdd]))
  (refine q_cell0 rfl rfl (by first | exact EvR.const _ | exact EvR.tmp rfl rfl) hR hk rfl rfl X hL hQ ?_; (simp only [Act.put, List.setIfInBounds_toArray, List.set_cons_succ, List.set_cons_zero, List.drop_succ_cons, List.drop_zero, List.take_succ_cons, List.take_zero, Nat.reduceAdd]))
  (apply q_pure rfl rfl rfl hQ; (case hv => (intro w'; (try go_simp); (try exact rfl))); (simp only [Act.put, List.setIfInBounds_toArray, List.set_cons_succ, List.set_cons_zero, List.drop_succ_cons, List.drop_zero, List.take_succ_cons, List.take_zero, Nat.reduceAdd]))
  (refine q_move rfl rfl (by first | exact EvR.const _ | exact EvR.tmp rfl rfl) rfl rfl hQ ?_; (simp only [Act.put, List.setIfInBounds_toArray, List.set_cons_succ, List.set_cons_zero, List.drop_succ_cons, List.drop_zero, List.take_succ_cons, List.take_zero, Nat.reduceAdd]))
  (refine q_call 35 _ _ rfl rfl _ rfl ⟨_, _, Tryd.func35, by kernel_rfl, rfl⟩ rfl rfl (hW.out _ _ _) ?_; rintro e w1 ⟨rfl, hb1⟩; replace X := X.call hb1; clear hb1; (have hL2 := X.und (by first | exact hL | exact hL.up | exact hL.up3 | exact hL.up.up); replace hL := hL2; clear hL2); refine ⟨_, rfl, fun _ _ => X.keeps hL, ?_⟩; (simp only [Act.put, List.setIfInBounds_toArray, List.set_cons_succ, List.set_cons_zero, List.drop_succ_cons, List.drop_zero, List.take_succ_cons, List.take_zero, Nat.reduceAdd]))
  (refine q_build1 rfl rfl (by first | exact EvR.const _ | exact EvR.tmp rfl rfl) (by rfl) (by rfl) X hL rfl rfl ?_; intro g w X2 hL2; replace X := X2; replace hL := hL2; clear X2 hL2; (simp only [Act.put, List.setIfInBounds_toArray, List.set_cons_succ, List.set_cons_zero, List.drop_succ_cons, List.drop_zero, List.take_succ_cons, List.take_zero, Nat.reduceAdd]))
  (refine q_app (M := M) (T := T) (n := 1) (_ :: _ :: A) rfl rfl [atW p s] stpC_flat X hO (by first | exact EvR.const _ | exact EvR.tmp rfl rfl) (by first | exact EvR.const _ | exact EvR.tmp rfl rfl) hgo rfl h40 hL (.cons_cons _ (.cons_cons _ (List.nil_sublist _))) rfl rfl ?_; intro a2 c2 w2 M2 hO2 X2 hL2; replace X := X2; replace hL := hL2; clear X2 hL2; (simp only [Act.put, List.setIfInBounds_toArray, List.set_cons_succ, List.set_cons_zero, List.drop_succ_cons, List.drop_zero, List.take_succ_cons, List.take_zero, Nat.reduceAdd]))
  ((first | (refine d_brk1 rfl rfl (by first | exact EvR.const _ | exact EvR.tmp rfl rfl) (by first | exact EvR.const _ | exact EvR.tmp rfl rfl) X rfl rfl rfl rfl rfl (by repeat (first | exact PutA.here (Nat.le_of_ble_eq_true rfl) | apply PutA.there)) ?_) | (refine d_brkN rfl rfl (by first | exact EvR.const _ | exact EvR.tmp rfl rfl) rfl X rfl rfl rfl rfl rfl (by repeat (first | exact PutA.here (Nat.le_of_ble_eq_true rfl) | apply PutA.there)) ?_)); intro w X2; (try simp only [upd] at X2); replace X := X2; clear X2; (simp only [Act.put, List.setIfInBounds_toArray, List.set_cons_succ, List.set_cons_zero, List.drop_succ_cons, List.drop_zero, List.take_succ_cons, List.take_zero, Nat.reduceAdd]))
  refine q_nil ?_
  go_wp2_with (first
    | (refine at_mem rfl ?_; (first | (refine at_load rfl ?_; (first | (refine c_load1 rfl _ _ rfl rfl X (by repeat (first | exact ReadA.here rfl | apply ReadA.there)) ?_) | (refine c_loadN rfl _ _ rfl rfl X (by repeat (first | exact ReadB.here (Nat.le_of_ble_eq_true rfl) | apply ReadB.there)) ?_))) | (refine at_store rfl ?_; (first | (refine c_store1 rfl _ _ _ rfl rfl (by first | exact EvR.const _ | exact EvR.tmp rfl rfl) X rfl rfl (by repeat (first | exact PutA.here (Nat.le_of_ble_eq_true rfl) | apply PutA.there)) ?_; intro w X2; (try simp only [upd] at X2); replace X := X2; clear X2) | (refine c_storeN rfl _ _ _ rfl rfl rfl X rfl rfl (by repeat (first | exact PutA.here (Nat.le_of_ble_eq_true rfl) | apply PutA.there)) ?_; intro w X2; (try simp only [upd] at X2); replace X := X2; clear X2))) | (refine m_alloc rfl _ rfl X ?_; intro g w X2; (replace X := X2; clear X2)) | (refine m_box rfl _ _ rfl (by first | exact EvR.const _ | exact EvR.tmp rfl rfl) rfl X ?_; intro g w X2; (replace X := X2; clear X2))); (simp only [Act.put, List.setIfInBounds_toArray, List.set_cons_succ, List.set_cons_zero, List.drop_succ_cons, List.drop_zero, List.take_succ_cons, List.take_zero, Nat.reduceAdd])))
  all_goals exact bodyPost_end (results_none rfl _ _ _) rfl ⟨⟨_, rfl⟩, _, _, _, hO2, fun h => (by first | rfl | (exfalso; omega) | (rw [if_neg (by omega)])), X⟩
theorem seal_mark (kd at_ : Int) (x0 q : Int) (vt vb : Value) (mk : Mrk) (p : Int) (hp : 0 ≤ p ∧ p < 24) {S : List Nat} {w0 w : World} {A M T : List Ent} {R : List Rd} {g12 g10 g15 g3 ga k m c n n' cap : Nat} {cs tcs : List Value} {t3 : TypeId} {v : Value} {l : List Stp}
    (hmk : ∀ w' L', St S w0 w' L' R → RMark w' (.agg #[.int .i64 kd, .int .i64 q, .int .i64 at_, vt, vb]) mk)
    (X : St S w0 w (⟨g12, [v], 32⟩ :: ⟨g10, [.slice (some ⟨ga, k, none⟩) m c], 25⟩ :: ⟨g15, [.func (.func 36) #[] #[.pointer (some ⟨g12, 0, none⟩), .pointer (some ⟨g10, 0, none⟩)]], 78⟩ :: ⟨g3, .int .i64 q :: tcs, t3⟩ :: (A ++ (M ++ T))) R) (hO : OwnM stpC 76 3 v l M) (hR : ⟨.slice (some ⟨ga, 0, none⟩) n' cap, n, cs⟩ ∈ R) (hk : cs[k]? = some (.int .i64 p)) (hm : 0 < m) (hmc : m ≤ c) (hl : l.length ≤ 1000) :
    Calls Tryd.prog 37 #[.agg #[.int .i64 kd, .int .i64 x0, .int .i64 at_, vt, vb], .pointer (some ⟨g3, 0, none⟩), .pointer (some ⟨g15, 0, none⟩)] w fun e w' => ∃ u v' at' M', e = .returned u ∧ OwnM stpC 76 3 v' (l ++ [atW p (markS mk)]) M' ∧ (1 < m → at' = .slice (some ⟨ga, k + 1, none⟩) (m - 1) (c - 1)) ∧
      St S w0 w' (⟨g12, [v'], 32⟩ :: ⟨g10, [at'], 25⟩ :: ⟨g15, [.func (.func 36) #[] #[.pointer (some ⟨g12, 0, none⟩), .pointer (some ⟨g10, 0, none⟩)]], 78⟩ :: ⟨g3, .int .i64 q :: tcs, t3⟩ :: (A ++ (M' ++ T))) R := by
  have hE := fun w' L' (X' : St S w0 w' L' R) => stamp_Encode mk _ w' (hmk w' L' X')
  have hL := fun s w (X : St S w0 w (⟨g12, [v], 32⟩ :: ⟨g10, [.slice (some ⟨ga, k, none⟩) m c], 25⟩ :: ⟨g15, [.func (.func 36) #[] #[.pointer (some ⟨g12, 0, none⟩), .pointer (some ⟨g10, 0, none⟩)]], 78⟩ :: ⟨g3, .int .i64 q :: tcs, t3⟩ :: (A ++ (M ++ T))) R) => seal_log s p hp (A := ⟨g15, [.func (.func 36) #[] #[.pointer (some ⟨g12, 0, none⟩), .pointer (some ⟨g10, 0, none⟩)]], 78⟩ :: ⟨g3, .int .i64 q :: tcs, t3⟩ :: A) X hO hR hk hm hmc hl
  generalize markS mk = ms at *
  generalize markE mk = me at *
  replace hE := hid hE; replace hL := hid hL; replace hR := hid hR; replace hk := hid hk
  clear hmk
  go_enter Tryd.func37, Tryd.ntmps37
  go_wp2_with (first
    | (refine at_mem rfl ?_; (first | (refine at_load rfl ?_; (first | (refine c_load1 rfl _ _ rfl rfl X (by repeat (first | exact ReadA.here rfl | apply ReadA.there)) ?_) | (refine c_loadN rfl _ _ rfl rfl X (by repeat (first | exact ReadB.here (Nat.le_of_ble_eq_true rfl) | apply ReadB.there)) ?_))) | (refine at_store rfl ?_; (first | (refine c_store1 rfl _ _ _ rfl rfl (by first | exact EvR.const _ | exact EvR.tmp rfl rfl) X rfl rfl (by repeat (first | exact PutA.here (Nat.le_of_ble_eq_true rfl) | apply PutA.there)) ?_; intro w X2; (try simp only [upd] at X2); replace X := X2; clear X2) | (refine c_storeN rfl _ _ _ rfl rfl rfl X rfl rfl (by repeat (first | exact PutA.here (Nat.le_of_ble_eq_true rfl) | apply PutA.there)) ?_; intro w X2; (try simp only [upd] at X2); replace X := X2; clear X2))) | (refine m_alloc rfl _ rfl X ?_; intro g w X2; (replace X := X2; clear X2)) | (refine m_box rfl _ _ rfl (by first | exact EvR.const _ | exact EvR.tmp rfl rfl) rfl X ?_; intro g w X2; (replace X := X2; clear X2))); (simp only [Act.put, List.setIfInBounds_toArray, List.set_cons_succ, List.set_cons_zero, List.drop_succ_cons, List.drop_zero, List.take_succ_cons, List.take_zero, Nat.reduceAdd]))
    | (go_at_call 38; go_loud ((with_reducible refine (hE.out _ _ X).mono ?_); rintro e w1 ⟨rfl, hb1⟩; replace X := X.call hb1; clear hb1))
    | (go_at_call 36; go_loud ((with_reducible refine (hL.out _ _ X.tail).mono ?_); rintro e w1 ⟨u, v2, at2, M2, rfl, hO2, hat, X2⟩; replace X := X2; clear X2)))
  exact bodyPost_end (results_none rfl _ _ _) rfl ⟨_, _, _, _, rfl, hO2, hat, X⟩
end Go.Proofs.YtjhmfljlclajnabDoor

namespace Wb
open Go Go.RowKit
def stepC (l : List Cpy) (k : Nat) : Prop := ∀ (hk : k < l.length), isBlk l[k].block = true ∧ l[k].text.size = 32 ∧ (∀ (h : 0 < k), l[k - 1].block < l[k].block)
theorem copies_iff (l : List Cpy) : copiesB l = true ↔ ∀ k, k < l.length → stepC l k := by
  unfold copiesB
  rw [Bool.and_eq_true, rise_iff, List.all_eq_true]
  have hg : ∀ j (hj : j < l.length), (blks l).getD j 0 = l[j].block := fun j hj => by simp [blks, hj]
  have hlen : (blks l).length = l.length := by simp [blks]
  constructor
  · rintro ⟨h1, h2⟩ k hk hk2
    have := h1 k (by omega)
    unfold riseAt at this
    rw [hg k hk] at this
    refine ⟨decide_eq_true ⟨this.1, this.2.1⟩, of_decide_eq_true (h2 _ (List.getElem_mem hk)), fun h => ?_⟩
    have h3 := this.2.2 h
    rw [hg (k - 1) (by omega)] at h3
    exact h3
  · intro h
    refine ⟨fun k hk => ?_, fun x hx => ?_⟩
    · have hk2 : k < l.length := by omega
      obtain ⟨g1, g2, g3⟩ := h k hk2 hk2
      have g1 := of_decide_eq_true g1
      unfold riseAt
      rw [hg k hk2]
      refine ⟨g1.1, g1.2, fun h0 => ?_⟩
      rw [hg (k - 1) (by omega)]
      exact g3 h0
    · obtain ⟨k, hk, rfl⟩ := List.mem_iff_getElem.1 hx
      exact decide_eq_true (h k hk hk).2.1
theorem copies_bad {l : List Cpy} {k : Nat} (hk : k < l.length) (h : ¬ stepC l k) : copiesB l = false := by
  rw [← Bool.not_eq_true, copies_iff]
  exact fun hh => h (hh k hk)
def hndC (h : Hnd) : List Value := [.bool h.on, .int .i64 h.left]
end Wb
namespace Go.Proofs.YtjhmfljlclajnabDoor
open Go.RowKit Wb
set_option linter.unusedVariables false
set_option linter.unusedSimpArgs false
set_option maxRecDepth 100000
set_option maxHeartbeats 4000000
theorem txn_copies (l : List Cpy) (v : Value) (w : World) (h : RL cpyC w v l) (hl : l.length ≤ 5864062014805) :
    Calls Tryd.prog 47 #[v] w fun e w' => e = .returned (.bool (copiesB l)) ∧ Below w.heap.size w w' := by
  obtain ⟨a, cap, rfl, _⟩ := h.form
  have hci := copies_iff l
  have hno := fun k hk hh => copies_bad (l := l) (k := k) hk hh
  have hB := fun b w => txn_block b w
  generalize copiesB l = cb at *
  replace h := hid h; replace hci := hid hci; replace hno := hid hno; replace hB := hid hB
  go_enter Tryd.func47, Tryd.ntmps47
  go_wp2
  go_loopw [3, 4, 7] (fun _ _ i wr => ∃ k : Nat, k ≤ l.length ∧ i = .int .i64 k ∧ Hid (∀ j, j < k → stepC l j) ∧ Below w.heap.size w wr) (fun _ _ i _ => l.length - (intOf i).toNat)
  case atStart => exact ⟨0, Nat.zero_le _, rfl, hid (fun j hj => absurd hj (Nat.not_lt_zero j)), b0 w⟩
  case round =>
    obtain ⟨k, hk, rfl, hall, nx⟩ := hrel
    by_cases hlt : k < l.length
    · obtain ⟨b1, o1, rfl, d0, d1⟩ := RL.at2 (fun x => .int .i64 x.block) (fun x => .string x.text) (fun _ => rfl) (h.out.below nx) hlt
      have hsk := hid (show isBlk l[k].block = true → l[k].text.size = 32 → (∀ (h : 0 < k), l[k - 1].block < l[k].block) → ∀ j, j < k + 1 → stepC l j from fun h1 h2 h3 j hj => by
        by_cases e : j = k
        · subst e; exact fun _ => ⟨h1, h2, h3⟩
        · exact hall.out j (by omega))
      have hnk := hid (show ¬ (isBlk l[k].block = true ∧ l[k].text.size = 32 ∧ (∀ (h : 0 < k), l[k - 1].block < l[k].block)) → cb = false from fun h => hno.out k hlt (fun hh => h (hh hlt)))
      have hBk := hB.out l[k].block
      by_cases hb : isBlk l[k].block = true
      · rw [hb] at hBk
        by_cases hs : l[k].text.size = 32
        · have hs2 : ((l[k].text.size : Int) != 32) = false := by rw [hs]; rfl
          rcases Nat.eq_zero_or_pos k with hk0 | hk0
          · subst hk0
            have hs3 := hid (hsk.out hb hs (fun h => absurd h (Nat.lt_irrefl 0)))
            simp only [Nat.zero_mul, Nat.add_zero] at d0 d1
            clear hsk hnk hs hb hall
            replace hBk := hid hBk
            generalize l[0] = x at *
            obtain ⟨xb, xt⟩ := x
            dsimp only at *
            have kx := Blk.new wr #[.int .i64 xb, .string xt] 74
            have x0 := kx.cell 0; have x1 := kx.cell 1
            simp only [List.getElem?_toArray, List.getElem?_cons_zero, List.getElem?_cons_succ] at x0 x1
            go_wp2
            refine wp_region_below (by kernel_rfl) (by kernel_rfl) ?_
            repeat (go_big_quiet_step ((go_at_call 48; exact BW.call_same (hBk.out _))))
            refine wpQuiet_nil ?_
            intro _ hw'
            obtain ⟨⟨wq, hq⟩, rfl⟩ := hw'
            go_wp2
            go_roundw
            case rel => exact ⟨1, by omega, by go_num, hs3, (bal nx _).trans (hq.mono (by have := nx.size; simp; omega))⟩
            case measure => simp [intOf]; omega
          · obtain ⟨j, rfl⟩ : ∃ j, k = j + 1 := ⟨k - 1, by omega⟩
            have hlj : j < l.length := by omega
            obtain ⟨b2, off2, hbb, d2, d3⟩ := RL.at2 (fun x => .int .i64 x.block) (fun x => .string x.text) (fun _ => rfl) (h.out.below nx) hlj
            simp only [Option.some.injEq, Addr.mk.injEq] at hbb
            obtain ⟨rfl, rfl, _⟩ := hbb
            have e1 : j + 1 - 1 = j := by omega
            by_cases hlt2 : l[j].block < l[j + 1].block
            · have hs3 := hid (hsk.out hb hs (fun h => hlt2))
              clear hsk hnk hs hb hall
              replace hBk := hid hBk
              generalize l[j + 1] = x at *
              generalize l[j] = y at *
              obtain ⟨xb, xt⟩ := x
              obtain ⟨yb, yt⟩ := y
              dsimp only at *
              have kx := Blk.new wr #[.int .i64 xb, .string xt] 74
              have x0 := kx.cell 0; have x1 := kx.cell 1
              simp only [List.getElem?_toArray, List.getElem?_cons_zero, List.getElem?_cons_succ] at x0 x1
              have lt1 := World.block_lt_of_cell? _ _ d2
              dsimp only at lt1
              go_wp2
              refine wp_region_below (by kernel_rfl) (by kernel_rfl) ?_
              repeat (go_big_quiet_step ((go_at_call 48; exact BW.call_same (hBk.out _))))
              refine wpQuiet_nil ?_
              intro _ hw'
              obtain ⟨⟨wq, hq⟩, rfl⟩ := hw'
              go_wp2
              go_roundw
              case rel => exact ⟨j + 1 + 1, by omega, by go_num, hs3, (bal nx _).trans (hq.mono (by have := nx.size; simp; omega))⟩
              case measure => simp [intOf]; omega
            · have hv := hnk.out (fun hh => hlt2 (hh.2.2 (by omega)))
              subst hv
              clear hsk hnk hs hb hall
              replace hBk := hid hBk
              generalize l[j + 1] = x at *
              generalize l[j] = y at *
              obtain ⟨xb, xt⟩ := x
              obtain ⟨yb, yt⟩ := y
              dsimp only at *
              have kx := Blk.new wr #[.int .i64 xb, .string xt] 74
              have x0 := kx.cell 0; have x1 := kx.cell 1
              simp only [List.getElem?_toArray, List.getElem?_cons_zero, List.getElem?_cons_succ] at x0 x1
              have lt1 := World.block_lt_of_cell? _ _ d2
              dsimp only at lt1
              go_wp2
              refine wp_region_below (by kernel_rfl) (by kernel_rfl) ?_
              repeat (go_big_quiet_step ((go_at_call 48; exact BW.call_same (hBk.out _))))
              refine wpQuiet_nil ?_
              intro _ hw'
              obtain ⟨⟨wq, hq⟩, rfl⟩ := hw'
              go_wp2
              go_ret
              exact ⟨rfl, (bal nx _).trans (hq.mono (by have := nx.size; simp; omega))⟩
        · have hv := hnk.out (fun hh => hs hh.2.1)
          subst hv
          have hs2 : ((l[k].text.size : Int) != 32) = true := bne_iff_ne.2 (by omega)
          clear hsk hnk hs hb hall
          replace hBk := hid hBk
          generalize l[k] = x at *
          obtain ⟨xb, xt⟩ := x
          dsimp only at *
          have kx := Blk.new wr #[.int .i64 xb, .string xt] 74
          have x0 := kx.cell 0; have x1 := kx.cell 1
          simp only [List.getElem?_toArray, List.getElem?_cons_zero, List.getElem?_cons_succ] at x0 x1
          go_wp2
          refine wp_region_below (by kernel_rfl) (by kernel_rfl) ?_
          repeat (go_big_quiet_step ((go_at_call 48; exact BW.call_same (hBk.out _))))
          refine wpQuiet_nil ?_
          intro _ hw'
          obtain ⟨⟨wq, hq⟩, rfl⟩ := hw'
          go_wp2
          go_ret
          exact ⟨rfl, (bal nx _).trans (hq.mono (by have := nx.size; simp; omega))⟩
      · have hv := hnk.out (fun hh => hb hh.1)
        subst hv
        rw [Bool.not_eq_true] at hb
        rw [hb] at hBk
        clear hsk hnk hb hall
        replace hBk := hid hBk
        generalize l[k] = x at *
        obtain ⟨xb, xt⟩ := x
        dsimp only at *
        have kx := Blk.new wr #[.int .i64 xb, .string xt] 74
        have x0 := kx.cell 0; have x1 := kx.cell 1
        simp only [List.getElem?_toArray, List.getElem?_cons_zero, List.getElem?_cons_succ] at x0 x1
        go_wp2
        refine wp_region_below (by kernel_rfl) (by kernel_rfl) ?_
        repeat (go_big_quiet_step ((go_at_call 48; exact BW.call_same (hBk.out _))))
        refine wpQuiet_nil ?_
        intro _ hw'
        obtain ⟨⟨wq, hq⟩, rfl⟩ := hw'
        go_wp2
        go_ret
        exact ⟨rfl, (bal nx _).trans (hq.mono (by have := nx.size; simp; omega))⟩
    · have hv := hci.out.2 (fun j hj => hall.out j (by omega))
      subst hv
      clear hall
      go_wp2
      go_ret
      exact ⟨rfl, nx⟩
end Go.Proofs.YtjhmfljlclajnabDoor
