/- The walk of the reference's EncodeMark. -/
import Derived.Test.YtjhmfljlclajnabDoorStampR3
import Derived.Test.YtjhmfljlclajnabDoorFit2
import Derived.Test.YtjhmfljlclajnabDoorPure2
import Derived.Deep.CutBlock
import Derived.Deep.DeepCutAuto
namespace Go.Proofs.YtjhmfljlclajnabDoor
open Go.RowKit Wb
set_option linter.unusedVariables false
set_option linter.unusedSimpArgs false
set_option maxRecDepth 100000
set_option maxHeartbeats 4000000

theorem str_app (x y : List UInt8) : str x ++ str y = str (x ++ y) := by
  apply ba_ext; simp [str]
theorem byte_mod (n : Int) : byte (n % 256) = byte n := by unfold byte; rw [Int.emod_emod_of_dvd _ (by decide)]

theorem ref_byteOf (n : Int) (w : World) : Calls Tryd.prog 77 #[.int .i64 n] w fun e w' => e = .returned (.string (str [byte n])) ∧ Below w.heap.size w w' := by
  have hr : RL byteC (w.alloc (.cells #[.int .u8 (n % 256)] 5 (0, 0))) (.slice (some ⟨w.heap.size, 0, none⟩) 1 1) [byte n] := by
    have h := RL.new1 (f := byteC) w 5 (0, 0) (byte n)
    simpa [byteC, byte_val] using h
  have hcv := run_toString (P := Tryd.prog) (src := 120) (dst := 9) _ Tryd.underlying120 Tryd.underlying5 Tryd.underlying9 hr
  clear hr
  go_enter Tryd.func77, Tryd.ntmps77
  go_wp2
  go_ret
  exact ⟨rfl, by repeat (first | exact Below.refl _ _ | with_reducible assumption | (refine allocB ?_ (by first | omega | (simp; done) | (simp; omega)) _) | (refine Below.setCell ?_ (by first | omega | (simp; done) | (simp; omega)) _) | refine Below.drew ?_ | (refine Below.trans ?_ (Below.mono (by with_reducible assumption) (by first | omega | (simp; done) | (simp; omega)))))⟩

theorem ref_EncodeMark (m : Mrk) (v : Value) (w : World) (hm : RMark w v m) :
    Calls Tryd.prog 51 #[v] w fun e w' => e = .returned (.tuple #[.string (markS m), .int .i64 (markE m)]) ∧ Below w.heap.size w w' := by
  have hG := fun w (hh : RMark w v m) => ref_GoodMark m v w hh
  have hm2 := hm
  obtain ⟨vt, vb, rfl, ht, hbk, n1, n2⟩ := hm
  by_cases hE : markE m = 0
  · have hS : markS m = str (markL m) := by unfold markS; rw [if_pos hE]
    have hfit : fit (str (headL m ++ bodyL m)) = markS m := by rw [hS]; exact fit_str _
    rw [hE] at hG ⊢
    obtain ⟨hA, hB, hC, hD⟩ := markE_good hE
    clear hS hE
    generalize markS m = ms at *
    obtain ⟨kd, sq, at_, tags, blks⟩ := m
    unfold badKind at hA
    unfold badNum at hB
    unfold badForm at hC
    unfold badLen at hD
    dsimp only at *
    obtain ⟨ta, tcap, rfl, tc1, tc2⟩ := ht.form
    obtain ⟨ba, bcap, rfl, bc1, bc2⟩ := hbk.form
    unfold maxLen at tc2 bc2
    have hk : kd = 1 ∨ kd = 2 ∨ kd = 3 ∨ kd = 4 := by omega
    obtain ⟨q1, q2, q3, q4⟩ : 1 ≤ sq ∧ sq ≤ 2147483647 ∧ 0 ≤ at_ ∧ at_ < 24 := by omega
    have g4 : tags.length ≤ 10 := by omega
    have g5 : blks.length ≤ 20 := by omega
    clear hA hB hC hD
    have hFt := fun s w hs => ref_FitText s w hs
    have hO := fun n w => ref_byteOf n w
    replace hFt := hid hFt
    replace hO := hid hO
    replace hG := hid hG
    replace hm2 := hid hm2
    replace hfit := hid hfit
    replace ht := hid ht
    replace hbk := hid hbk
    clear n1 n2 tc1 tc2 bc1 bc2
    have nf : 0 < w.heap.size + 1 := by omega
    go_enter Tryd.func51, Tryd.ntmps51
    go_wp2_with (go_at_call 76; refine (hG.out _ (hm2.out.below (by repeat (first | exact Below.refl _ _ | with_reducible assumption | (refine allocB ?_ (by first | omega | (simp; done) | (simp; omega)) _) | (refine Below.setCell ?_ (by first | omega | (simp; done) | (simp; omega)) _) | refine Below.drew ?_ | (refine Below.trans ?_ (Below.mono (by with_reducible assumption) (by first | omega | (simp; done) | (simp; omega)))))))).mono ?_; rintro e w1 ⟨rfl, hb1⟩; obtain ⟨hbc, hbf⟩ := bcell hb1; have hbz := hb1.size; try simp only [World.size_alloc, World.size_setCell, World.size_drew] at hbz; have hz0 := Nat.lt_of_lt_of_le (n := w.heap.size) (by omega) hbz)
    have kb : Blk w1 w.heap.size #[.int .i64 kd, .int .i64 sq, .int .i64 at_, .slice ta tags.length tcap, .slice ba blks.length bcap] 81 := (Blk.new w _ _).step hb1
    have hnx : Below w.heap.size w w1 := by repeat (first | exact Below.refl _ _ | with_reducible assumption | (refine allocB ?_ (by first | omega | (simp; done) | (simp; omega)) _) | (refine Below.setCell ?_ (by first | omega | (simp; done) | (simp; omega)) _) | refine Below.drew ?_ | (refine Below.trans ?_ (Below.mono (by with_reducible assumption) (by first | omega | (simp; done) | (simp; omega)))))
    clear hb1 hbc hbf hm2 hG
    have c0 := kb.cell 0
    have c1 := kb.cell 1
    have c2 := kb.cell 2
    have c3 := kb.cell 3
    have c4 := kb.cell 4
    simp only [List.getElem?_toArray, List.getElem?_cons_zero, List.getElem?_cons_succ] at c0 c1 c2 c3 c4
    have z1 := str_size
    have z2 := str_app
    have z3 := byte_mod
    have z4 : (⟨#[87, 66, 75, 49]⟩ : ByteArray) = str magic := rfl
    have z5 : magic.length = 4 := rfl
    (refine wp_region_below (by kernel_rfl) (by kernel_rfl) ?_); (repeat (go_big_quiet_step ((go_at_call 77; exact BW.call (hO.out _ _))) )); refine wpQuiet_nil ?_; intro wq hw'; obtain ⟨⟨_, hb1⟩, rfl⟩ := hw'
    have hl9 : (magic ++ [byte kd, byte (sq / 16777216), byte (sq / 65536), byte (sq / 256), byte sq]).length = 9 := rfl
    obtain ⟨bd, hbd⟩ : ∃ l, l = bodyL ⟨kd, sq, at_, tags, blks⟩ := ⟨_, rfl⟩
    rw [← hbd] at hfit
    replace hfit : Hid (fit (str ((magic ++ [byte kd, byte (sq / 16777216), byte (sq / 65536), byte (sq / 256), byte sq]) ++ bd)) = ms) := hfit
    generalize magic ++ [byte kd, byte (sq / 16777216), byte (sq / 65536), byte (sq / 256), byte sq] = hd at *
    have kb2 := kb.below hb1 (by omega)
    have hnx2 : Below w.heap.size w wq := by repeat (first | exact Below.refl _ _ | with_reducible assumption | (refine allocB ?_ (by first | omega | (simp; done) | (simp; omega)) _) | (refine Below.setCell ?_ (by first | omega | (simp; done) | (simp; omega)) _) | refine Below.drew ?_ | (refine Below.trans ?_ (Below.mono (by with_reducible assumption) (by first | omega | (simp; done) | (simp; omega)))))
    have hz2 : w.heap.size + 1 ≤ wq.heap.size := Nat.le_trans hbz hb1.size
    clear kb hnx hb1 c0 c1 c2 c3 c4 hbz hz0 z3 z4 z5
    have c0 := kb2.cell 0
    have c2 := kb2.cell 2
    have c3 := kb2.cell 3
    have c4 := kb2.cell 4
    simp only [List.getElem?_toArray, List.getElem?_cons_zero, List.getElem?_cons_succ] at c0 c2 c3 c4
    have lt0 := kb2.lt
    have z6 : (⟨#[0]⟩ : ByteArray) = str [0] := rfl
    have z7 : (⟨#[1]⟩ : ByteArray) = str [1] := rfl
    go_upto_block 0 with fail
    go_cut [5] (fun s5 wx => s5 = .string (str (hd ++ bd)) ∧ Below w.heap.size w wx)
    case first =>
      rcases hk with rfl | rfl | rfl | rfl
      · have hbody : bd = [byte at_] := hbd
        replace hbody := hid hbody
        clear hbd
        go_wp2_with (go_at_call 77; refine (hO.out _ _).mono ?_; rintro e w2 ⟨rfl, hb2⟩)
        go_meet
        exact ⟨by rw [hbody.out], hnx2.trans (hb2.mono (by omega))⟩
      · have hbody : bd = [byte tags.length] ++ tags.flatMap tagB := hbd
        replace hbody := hid hbody
        clear hbd
        go_wp2_with (go_at_call 77; refine (hO.out _ _).mono ?_; rintro e w2 ⟨rfl, hb2⟩; have hnx3 := hnx2.trans (hb2.mono (by omega)); have hz3 := hb2.size; have c3 := (kb2.below hb2 (by omega)).cell 3; simp only [List.getElem?_toArray, List.getElem?_cons_zero, List.getElem?_cons_succ] at c3)
        go_loopw [5, 7, 61] (fun s5 _ i wr => ∃ k : Nat, k ≤ tags.length ∧ i = .int .i64 k ∧ s5 = .string (str (hd ++ ([byte tags.length] ++ (tags.take k).flatMap tagB))) ∧ Below w.heap.size w wr ∧ w.heap.size + 1 ≤ wr.heap.size) (fun _ _ i _ => tags.length - (intOf i).toNat)
        case atStart => exact ⟨0, Nat.zero_le _, rfl, by simp, hnx3, by omega⟩
        case round =>
          obtain ⟨k, hk, rfl, rfl, hnx, hz⟩ := hrel
          by_cases hlt : k < tags.length
          · obtain ⟨b, off, rfl, d0, d1⟩ := RL.at2 (fun x => .int .i64 x.block) (fun x => .bool x.esc) (fun _ => rfl) (ht.out.below hnx) hlt
            have lt1 := World.block_lt_of_cell? _ _ d0
            dsimp only at lt1
            have hstep : tags.take (k + 1) = tags.take k ++ [tags[k]] := by rw [List.take_succ_eq_append_getElem hlt]
            have hln : (hd ++ ([byte tags.length] ++ (tags.take k).flatMap tagB)).length = 10 + k * 2 := by
              rw [List.length_append, List.length_append, hl9, tagBs_len, List.length_take, Nat.min_eq_left hk]; simp; omega
            have hjoin : ∀ x : Tag, tags[k] = x → (hd ++ ([byte tags.length] ++ (tags.take k).flatMap tagB)) ++ tagB x = hd ++ ([byte tags.length] ++ (tags.take (k + 1)).flatMap tagB) := by
              rintro x rfl
              rw [hstep, List.flatMap_append, List.flatMap_cons, List.flatMap_nil, List.append_nil]
              simp only [List.append_assoc]
            replace hjoin := hid (hjoin _ rfl)
            clear hstep
            generalize hd ++ ([byte tags.length] ++ (tags.take k).flatMap tagB) = ls at *
            generalize tags[k] = x at *
            obtain ⟨xb, xe⟩ := x
            dsimp only at d0 d1
            cases xe
            all_goals
              go_wp2_with (go_at_call 77; refine (hO.out _ _).mono ?_; rintro e w4 ⟨rfl, hb1⟩; obtain ⟨hbc, hbf⟩ := bcell hb1; have hbz := hb1.size; try simp only [World.size_alloc, World.size_setCell, World.size_drew] at hbz; have hz0 := Nat.lt_of_lt_of_le (n := w.heap.size) (by omega) hbz)
              go_roundw
              case rel => exact ⟨k + 1, by omega, by go_num, by rw [← hjoin.out]; rfl, (allocB hnx (by omega) _).trans (hb1.mono (by simp; omega)), by omega⟩
              case measure => simp [intOf]; omega
          · obtain rfl : k = tags.length := by omega
            rw [List.take_length]
            go_wp2
            go_meet
            exact ⟨by rw [hbody.out], hnx⟩
      · have hbody : bd = [byte blks.length] ++ blks.map byte := hbd
        replace hbody := hid hbody
        clear hbd
        go_wp2_with (go_at_call 77; refine (hO.out _ _).mono ?_; rintro e w2 ⟨rfl, hb2⟩; have hnx3 := hnx2.trans (hb2.mono (by omega)); have hz3 := hb2.size; have c4 := (kb2.below hb2 (by omega)).cell 4; simp only [List.getElem?_toArray, List.getElem?_cons_zero, List.getElem?_cons_succ] at c4)
        go_loopw [5, 9, 88] (fun s5 _ i wr => ∃ k : Nat, k ≤ blks.length ∧ i = .int .i64 k ∧ s5 = .string (str (hd ++ ([byte blks.length] ++ (blks.take k).map byte))) ∧ Below w.heap.size w wr ∧ w.heap.size + 1 ≤ wr.heap.size) (fun _ _ i _ => blks.length - (intOf i).toNat)
        case atStart => exact ⟨0, Nat.zero_le _, rfl, by simp, hnx3, by omega⟩
        case round =>
          obtain ⟨k, hk, rfl, rfl, hnx, hz⟩ := hrel
          by_cases hlt : k < blks.length
          · obtain ⟨b, off, rfl, d0⟩ := RL.at1 (fun x => .int .i64 x) (fun _ => rfl) (hbk.out.below hnx) hlt
            have lt1 := World.block_lt_of_cell? _ _ d0
            dsimp only at lt1
            have hstep : blks.take (k + 1) = blks.take k ++ [blks[k]] := by rw [List.take_succ_eq_append_getElem hlt]
            have hln : (hd ++ ([byte blks.length] ++ (blks.take k).map byte)).length = 10 + k := by
              rw [List.length_append, List.length_append, hl9, List.length_map, List.length_take, Nat.min_eq_left hk]; simp; omega
            have hjoin : ∀ x : Int, blks[k] = x → (hd ++ ([byte blks.length] ++ (blks.take k).map byte)) ++ [byte x] = hd ++ ([byte blks.length] ++ (blks.take (k + 1)).map byte) := by
              rintro x rfl
              rw [hstep, List.map_append, List.map_cons, List.map_nil]
              simp only [List.append_assoc]
            replace hjoin := hid (hjoin _ rfl)
            clear hstep
            generalize hd ++ ([byte blks.length] ++ (blks.take k).map byte) = ls at *
            generalize blks[k] = x at *
            go_wp2_with (go_at_call 77; refine (hO.out _ _).mono ?_; rintro e w4 ⟨rfl, hb1⟩)
            go_roundw
            case rel => exact ⟨k + 1, by omega, by go_num, by rw [← hjoin.out], hnx.trans (hb1.mono (by omega)), Nat.le_trans hz hb1.size⟩
            case measure => simp [intOf]; omega
          · obtain rfl : k = blks.length := by omega
            rw [List.take_length]
            go_wp2
            go_meet
            exact ⟨by rw [hbody.out], hnx⟩
      · have hbody : bd = [] := hbd
        replace hbody := hid hbody
        clear hbd
        go_wp2
        go_meet
        exact ⟨by rw [hbody.out, List.append_nil], hnx2⟩
    case rest =>
      obtain ⟨rfl, hnx5⟩ := hcut
      have hsz : (str (hd ++ bd)).size ≤ 9223372036854775807 := by
        have hb := bodyL_len ⟨kd, sq, at_, tags, blks⟩ g4 g5
        rw [str_size, List.length_append, hl9, hbd]; omega
      replace hfit := hid hfit
      clear z1 z2
      generalize str (hd ++ bd) = sb at *
      go_wp2_with (go_at_call 78; refine (hFt.out _ _ hsz).mono ?_; rintro e w1 ⟨rfl, hb1⟩)
      go_ret2
      exact ⟨ret_st hfit.out.out, hnx5.trans (hb1.mono hnx5.size)⟩
  · have hS : markS m = str [] := by unfold markS; rw [if_neg hE]
    rw [hS]
    have hne : (markE m != 0) = true := bne_iff_ne.2 hE
    generalize markE m = er at *
    replace hG := hid hG
    replace hm2 := hid hm2
    obtain ⟨kd, sq, at_, tags, blks⟩ := m
    dsimp only at *
    clear hS hE ht hbk
    go_enter Tryd.func51, Tryd.ntmps51
    go_wp2_with (go_at_call 76; refine (hG.out _ (hm2.out.below (by repeat (first | exact Below.refl _ _ | with_reducible assumption | (refine allocB ?_ (by first | omega | (simp; done) | (simp; omega)) _) | (refine Below.setCell ?_ (by first | omega | (simp; done) | (simp; omega)) _) | refine Below.drew ?_ | (refine Below.trans ?_ (Below.mono (by with_reducible assumption) (by first | omega | (simp; done) | (simp; omega)))))))).mono ?_; rintro e w1 ⟨rfl, hb1⟩; obtain ⟨hbc, hbf⟩ := bcell hb1; have hbz := hb1.size; try simp only [World.size_alloc, World.size_setCell, World.size_drew] at hbz; have hz0 := Nat.lt_of_lt_of_le (n := w.heap.size) (by omega) hbz)
    go_ret2
    exact ⟨rfl, by repeat (first | exact Below.refl _ _ | with_reducible assumption | (refine allocB ?_ (by first | omega | (simp; done) | (simp; omega)) _) | (refine Below.setCell ?_ (by first | omega | (simp; done) | (simp; omega)) _) | refine Below.drew ?_ | (refine Below.trans ?_ (Below.mono (by with_reducible assumption) (by first | omega | (simp; done) | (simp; omega)))))⟩
end Go.Proofs.YtjhmfljlclajnabDoor
