/- The walks of the reference's GoodMark, the ways behind its loop. -/
import Derived.Test.YtjhmfljlclajnabDoorStampR2
import Derived.Deep.RegionWith
namespace Go.Proofs.YtjhmfljlclajnabDoor
open Go.RowKit Wb
set_option linter.unusedVariables false
set_option linter.unusedSimpArgs false
set_option maxRecDepth 100000
set_option maxHeartbeats 8000000

theorem take_map {tags : List Tag} {k : Nat} (hk : k < tags.length) : (tags.map (·.block)).take (k + 1) = (tags.map (·.block)).take k ++ [tags[k].block] := by
  rw [List.take_succ_eq_append_getElem (by simpa using hk)]
  simp
theorem take_len {tags : List Tag} {k : Nat} (hk : k ≤ tags.length) : ((tags.map (·.block)).take k).length = k := by simp; omega

theorem ref_GoodMark_ok (m : Mrk) (v : Value) (w : World) (hm : RMark w v m) (hA : ¬ badKind m) (hB : ¬ badNum m) (hC : ¬ badForm m) :
    Calls Tryd.prog 76 #[v] w fun e w' => e = .returned (.int .i64 (markE m)) ∧ Below w.heap.size w w' := by
  obtain ⟨vt, vb, rfl, ht, hbk, n1, n2⟩ := hm
  have hE1 : badLen m ∨ badRise m → markE m = 2 := fun h => by rcases h with h | h; exact markE_len hA hB hC h; exact markE_rise hA hB hC h
  have hE0 : ¬ (badLen m ∨ badRise m) → markE m = 0 := fun h => markE_ok hA hB hC (fun hh => h (.inl hh)) (fun hh => h (.inr hh))
  generalize markE m = er at *
  obtain ⟨kd, sq, at_, tags, blks⟩ := m
  unfold badKind at hA
  unfold badNum at hB
  unfold badForm at hC
  unfold badLen badRise at hE1 hE0
  dsimp only at *
  obtain ⟨ta, tcap, rfl, tc1, tc2⟩ := ht.form
  obtain ⟨ba, bcap, rfl, bc1, bc2⟩ := hbk.form
  unfold maxLen at tc2 bc2
  have hk : kd = 1 ∨ kd = 2 ∨ kd = 3 ∨ kd = 4 := by omega
  obtain ⟨q1, q2, q3, q4⟩ : 1 ≤ sq ∧ sq ≤ 2147483647 ∧ 0 ≤ at_ ∧ at_ < 24 := by omega
  have g1 : kd = 1 ∨ at_ = 0 := by omega
  have g2 : kd = 2 ∨ tags.length ≤ 0 := by omega
  have g3 : kd = 3 ∨ blks.length ≤ 0 := by omega
  have e1 : kd ≠ 2 → ((tags.length : Int) != 0) = false := fun h => by rw [bne_eq_false_iff_eq]; omega
  have e2 : kd ≠ 3 → ((blks.length : Int) != 0) = false := fun h => by rw [bne_eq_false_iff_eq]; omega
  clear hA hB hC
  -- what the last test asks, as Bools
  have hE : ∀ (x1 x2 : Bool), rise (tags.map (·.block)) = x1 → rise blks = x2 →
      ((x1 = false ∨ x2 = false ∨ kd = 2 ∧ (tags.length < 1 ∨ 10 < tags.length) ∨ kd = 3 ∧ (blks.length < 1 ∨ 20 < blks.length)) → er = 2) ∧
      (x1 = true → x2 = true → ¬ (kd = 2 ∧ (tags.length < 1 ∨ 10 < tags.length)) → ¬ (kd = 3 ∧ (blks.length < 1 ∨ 20 < blks.length)) → er = 0) := by
    intro x1 x2 hx1 hx2
    rw [hx1, hx2] at hE1 hE0
    refine ⟨fun hh => hE1 ?_, fun a1 a2 a3 a4 => hE0 ?_⟩
    · rcases hh with hh | hh | hh | hh
      · exact .inr (.inl hh)
      · exact .inr (.inr hh)
      · left; omega
      · left; omega
    · rintro (hh | hh)
      · omega
      · rcases hh with hh | hh
        · rw [a1] at hh; cases hh
        · rw [a2] at hh; cases hh
  replace hE := hid (hE _ _ rfl rfl)
  clear hE1 hE0
  have hr1 := fun (v : Value) (w : World) (hh : RL intC w v (tags.map (·.block))) => ref_rising v (tags.map (·.block)) w hh
  have hr2 := fun (v : Value) (w : World) (hh : RL intC w v blks) => ref_rising v blks w hh
  generalize rise (tags.map (·.block)) = x1 at *
  generalize rise blks = x2 at *
  replace hr1 := hid hr1
  replace hr2 := hid hr2
  rcases hk with rfl | rfl | rfl | rfl
  · replace e1 := e1 (by decide)
    replace e2 := e2 (by decide)
    replace g2 : tags.length ≤ 0 := by omega
    replace g3 : blks.length ≤ 0 := by omega
    clear g1
    go_enter Tryd.func76, Tryd.ntmps76
    have kb0 : Blk (w.alloc (.cells #[.int .i64 1, .int .i64 sq, .int .i64 at_, .slice ta tags.length tcap, .slice ba blks.length bcap] 81)) w.heap.size #[.int .i64 1, .int .i64 sq, .int .i64 at_, .slice ta tags.length tcap, .slice ba blks.length bcap] 81 := Blk.new w _ _
    go_wp2
    go_loopw [3, 5, 65] (fun vl _ i wr => ∃ k : Nat, k ≤ tags.length ∧ i = .int .i64 k ∧ Own intC (w.heap.size + 1) 3 1 wr vl ((tags.map (·.block)).take k) ∧ Blk wr w.heap.size #[.int .i64 1, .int .i64 sq, .int .i64 at_, .slice ta tags.length tcap, .slice ba blks.length bcap] 81 ∧ Below w.heap.size w wr) (fun _ _ i _ => tags.length - (intOf i).toNat)
    case atStart => exact ⟨0, Nat.zero_le _, rfl, by simpa using Own.nil _ _ _ _ _, kb0, by repeat (first | exact Below.refl _ _ | with_reducible assumption | (refine allocB ?_ (by first | omega | (simp; done) | (simp; omega)) _) | (refine Below.setCell ?_ (by first | omega | (simp; done) | (simp; omega)) _) | refine Below.drew ?_ | (refine Below.trans ?_ (Below.mono (by with_reducible assumption) (by first | omega | (simp; done) | (simp; omega)))))⟩
    case round =>
      obtain ⟨k, hk, rfl, hown, kb, hnx⟩ := hrel
      have c0 := kb.cell 0
      have c3 := kb.cell 3
      have c4 := kb.cell 4
      simp only [List.getElem?_toArray, List.getElem?_cons_zero, List.getElem?_cons_succ] at c0 c3 c4
      have lt0 := kb.lt
      have lz := hnx.size
      by_cases hlt : k < tags.length
      · exfalso; omega
      · obtain rfl : k = tags.length := by omega
        have hrd := hown.reads
        rw [List.take_of_length_le (by rw [List.length_map]; exact Nat.le_refl _)] at hrd
        obtain ⟨la, lcap, hu, lc1, lc2⟩ := hrd.form
        rw [List.length_map] at hu
        subst hu
        have hrb := hbk.below hnx
        clear hown
        cases x1
        · obtain rfl := hE.out.1 (.inl rfl)
          go_wp2_with (first | (go_at_call_of 72 (Value.slice la tags.length lcap); refine (hr1.out _ _ hrd).mono ?_; rintro e w' ⟨rfl, rfl⟩) | (go_at_call_of 72 (Value.slice ba blks.length bcap); refine (hr2.out _ _ hrb).mono ?_; rintro e w' ⟨rfl, rfl⟩)); all_goals (go_ret; exact ⟨rfl, hnx⟩)
        · cases x2
          · obtain rfl := hE.out.1 (.inr (.inl rfl))
            go_wp2_with (first | (go_at_call_of 72 (Value.slice la tags.length lcap); refine (hr1.out _ _ hrd).mono ?_; rintro e w' ⟨rfl, rfl⟩) | (go_at_call_of 72 (Value.slice ba blks.length bcap); refine (hr2.out _ _ hrb).mono ?_; rintro e w' ⟨rfl, rfl⟩)); all_goals (go_ret; exact ⟨rfl, hnx⟩)
          · by_cases hz1 : (1 : Int) = 2 ∧ (tags.length < 1 ∨ 10 < tags.length) ∨ (1 : Int) = 3 ∧ (blks.length < 1 ∨ 20 < blks.length)
            · first
              | (exfalso; omega)
              | (obtain rfl := hE.out.1 (by simp; omega)
                 go_wp2_with (first | (go_at_call_of 72 (Value.slice la tags.length lcap); refine (hr1.out _ _ hrd).mono ?_; rintro e w' ⟨rfl, rfl⟩) | (go_at_call_of 72 (Value.slice ba blks.length bcap); refine (hr2.out _ _ hrb).mono ?_; rintro e w' ⟨rfl, rfl⟩)); all_goals (go_ret; exact ⟨rfl, hnx⟩))
            · obtain rfl := hE.out.2 rfl rfl (by omega) (by omega)
              go_wp2_with (first | (go_at_call_of 72 (Value.slice la tags.length lcap); refine (hr1.out _ _ hrd).mono ?_; rintro e w' ⟨rfl, rfl⟩) | (go_at_call_of 72 (Value.slice ba blks.length bcap); refine (hr2.out _ _ hrb).mono ?_; rintro e w' ⟨rfl, rfl⟩)); all_goals (go_ret; exact ⟨rfl, hnx⟩)
  · replace e2 := e2 (by decide)
    replace g3 : blks.length ≤ 0 := by omega
    obtain rfl : at_ = 0 := by omega
    clear g1 g2 e1
    go_enter Tryd.func76, Tryd.ntmps76
    have kb0 : Blk (w.alloc (.cells #[.int .i64 2, .int .i64 sq, .int .i64 0, .slice ta tags.length tcap, .slice ba blks.length bcap] 81)) w.heap.size #[.int .i64 2, .int .i64 sq, .int .i64 0, .slice ta tags.length tcap, .slice ba blks.length bcap] 81 := Blk.new w _ _
    go_wp2
    go_loopw [3, 5, 65] (fun vl _ i wr => ∃ k : Nat, k ≤ tags.length ∧ i = .int .i64 k ∧ Own intC (w.heap.size + 1) 3 1 wr vl ((tags.map (·.block)).take k) ∧ Blk wr w.heap.size #[.int .i64 2, .int .i64 sq, .int .i64 0, .slice ta tags.length tcap, .slice ba blks.length bcap] 81 ∧ Below w.heap.size w wr) (fun _ _ i _ => tags.length - (intOf i).toNat)
    case atStart => exact ⟨0, Nat.zero_le _, rfl, by simpa using Own.nil _ _ _ _ _, kb0, by repeat (first | exact Below.refl _ _ | with_reducible assumption | (refine allocB ?_ (by first | omega | (simp; done) | (simp; omega)) _) | (refine Below.setCell ?_ (by first | omega | (simp; done) | (simp; omega)) _) | refine Below.drew ?_ | (refine Below.trans ?_ (Below.mono (by with_reducible assumption) (by first | omega | (simp; done) | (simp; omega)))))⟩
    case round =>
      obtain ⟨k, hk, rfl, hown, kb, hnx⟩ := hrel
      have c0 := kb.cell 0
      have c3 := kb.cell 3
      have c4 := kb.cell 4
      simp only [List.getElem?_toArray, List.getElem?_cons_zero, List.getElem?_cons_succ] at c0 c3 c4
      have lt0 := kb.lt
      have lz := hnx.size
      by_cases hlt : k < tags.length
      · obtain ⟨b, off, rfl, d0, d1⟩ := RL.at2 (fun x => .int .i64 x.block) (fun x => .bool x.esc) (fun _ => rfl) (ht.below hnx) hlt
        have htk := take_map hlt
        have htl := take_len hk
        replace htk := hid htk
        replace htl := hid htl
        generalize tags[k] = x at *
        go_wp2_with (at_builtin; refine wpList_push rfl _ _ _ rfl (w.heap.size + 1) _ 1 8 intC_flat elemInt (hown.alloc _) rfl x.block rfl rfl ?c1 ?c2 ?c3 ?c4)
        case c1 => (try rw [htl.out]); omega
        case c2 => (try rw [htl.out]); unfold maxLen; omega
        all_goals try (case c3 => simp; omega)
        case c4 =>
          intro v' w' hown' hbel hgrow
          rw [← htk.out] at hown'
          have kb' := (kb.alloc (.cells #[.int .i64 x.block, .bool x.esc] 92)).below hbel (by omega)
          have hnx' := (allocB hnx (Nat.le_refl _) (.cells #[.int .i64 x.block, .bool x.esc] 92)).trans (hbel.mono (by omega))
          go_wp2
          go_roundw
          case rel => exact ⟨k + 1, by omega, by go_num, hown', kb', hnx'⟩
          case measure => simp [intOf]; omega
      · obtain rfl : k = tags.length := by omega
        have hrd := hown.reads
        rw [List.take_of_length_le (by rw [List.length_map]; exact Nat.le_refl _)] at hrd
        obtain ⟨la, lcap, hu, lc1, lc2⟩ := hrd.form
        rw [List.length_map] at hu
        subst hu
        have hrb := hbk.below hnx
        clear hown
        cases x1
        · obtain rfl := hE.out.1 (.inl rfl)
          go_wp2_with (first | (go_at_call_of 72 (Value.slice la tags.length lcap); refine (hr1.out _ _ hrd).mono ?_; rintro e w' ⟨rfl, rfl⟩) | (go_at_call_of 72 (Value.slice ba blks.length bcap); refine (hr2.out _ _ hrb).mono ?_; rintro e w' ⟨rfl, rfl⟩)); all_goals (go_ret; exact ⟨rfl, hnx⟩)
        · cases x2
          · obtain rfl := hE.out.1 (.inr (.inl rfl))
            go_wp2_with (first | (go_at_call_of 72 (Value.slice la tags.length lcap); refine (hr1.out _ _ hrd).mono ?_; rintro e w' ⟨rfl, rfl⟩) | (go_at_call_of 72 (Value.slice ba blks.length bcap); refine (hr2.out _ _ hrb).mono ?_; rintro e w' ⟨rfl, rfl⟩)); all_goals (go_ret; exact ⟨rfl, hnx⟩)
          · by_cases hz1 : (2 : Int) = 2 ∧ (tags.length < 1 ∨ 10 < tags.length) ∨ (2 : Int) = 3 ∧ (blks.length < 1 ∨ 20 < blks.length)
            · first
              | (exfalso; omega)
              | (obtain rfl := hE.out.1 (.inr (.inr (hz1.imp (fun h => ⟨trivial, h.2⟩) (fun h => absurd h.1 (by decide)))))
                 go_wp2_with (first | (go_at_call_of 72 (Value.slice la tags.length lcap); refine (hr1.out _ _ hrd).mono ?_; rintro e w' ⟨rfl, rfl⟩) | (go_at_call_of 72 (Value.slice ba blks.length bcap); refine (hr2.out _ _ hrb).mono ?_; rintro e w' ⟨rfl, rfl⟩)); all_goals (go_ret; exact ⟨rfl, hnx⟩))
            · obtain rfl := hE.out.2 rfl rfl (by omega) (by omega)
              go_wp2_with (first | (go_at_call_of 72 (Value.slice la tags.length lcap); refine (hr1.out _ _ hrd).mono ?_; rintro e w' ⟨rfl, rfl⟩) | (go_at_call_of 72 (Value.slice ba blks.length bcap); refine (hr2.out _ _ hrb).mono ?_; rintro e w' ⟨rfl, rfl⟩)); all_goals (go_ret; exact ⟨rfl, hnx⟩)
  · replace e1 := e1 (by decide)
    replace g2 : tags.length ≤ 0 := by omega
    obtain rfl : at_ = 0 := by omega
    clear g1 g3 e2
    go_enter Tryd.func76, Tryd.ntmps76
    have kb0 : Blk (w.alloc (.cells #[.int .i64 3, .int .i64 sq, .int .i64 0, .slice ta tags.length tcap, .slice ba blks.length bcap] 81)) w.heap.size #[.int .i64 3, .int .i64 sq, .int .i64 0, .slice ta tags.length tcap, .slice ba blks.length bcap] 81 := Blk.new w _ _
    go_wp2
    go_loopw [3, 5, 65] (fun vl _ i wr => ∃ k : Nat, k ≤ tags.length ∧ i = .int .i64 k ∧ Own intC (w.heap.size + 1) 3 1 wr vl ((tags.map (·.block)).take k) ∧ Blk wr w.heap.size #[.int .i64 3, .int .i64 sq, .int .i64 0, .slice ta tags.length tcap, .slice ba blks.length bcap] 81 ∧ Below w.heap.size w wr) (fun _ _ i _ => tags.length - (intOf i).toNat)
    case atStart => exact ⟨0, Nat.zero_le _, rfl, by simpa using Own.nil _ _ _ _ _, kb0, by repeat (first | exact Below.refl _ _ | with_reducible assumption | (refine allocB ?_ (by first | omega | (simp; done) | (simp; omega)) _) | (refine Below.setCell ?_ (by first | omega | (simp; done) | (simp; omega)) _) | refine Below.drew ?_ | (refine Below.trans ?_ (Below.mono (by with_reducible assumption) (by first | omega | (simp; done) | (simp; omega)))))⟩
    case round =>
      obtain ⟨k, hk, rfl, hown, kb, hnx⟩ := hrel
      have c0 := kb.cell 0
      have c3 := kb.cell 3
      have c4 := kb.cell 4
      simp only [List.getElem?_toArray, List.getElem?_cons_zero, List.getElem?_cons_succ] at c0 c3 c4
      have lt0 := kb.lt
      have lz := hnx.size
      by_cases hlt : k < tags.length
      · exfalso; omega
      · obtain rfl : k = tags.length := by omega
        have hrd := hown.reads
        rw [List.take_of_length_le (by rw [List.length_map]; exact Nat.le_refl _)] at hrd
        obtain ⟨la, lcap, hu, lc1, lc2⟩ := hrd.form
        rw [List.length_map] at hu
        subst hu
        have hrb := hbk.below hnx
        clear hown
        cases x1
        · obtain rfl := hE.out.1 (.inl rfl)
          go_wp2_with (first | (go_at_call_of 72 (Value.slice la tags.length lcap); refine (hr1.out _ _ hrd).mono ?_; rintro e w' ⟨rfl, rfl⟩) | (go_at_call_of 72 (Value.slice ba blks.length bcap); refine (hr2.out _ _ hrb).mono ?_; rintro e w' ⟨rfl, rfl⟩)); all_goals (go_ret; exact ⟨rfl, hnx⟩)
        · cases x2
          · obtain rfl := hE.out.1 (.inr (.inl rfl))
            go_wp2_with (first | (go_at_call_of 72 (Value.slice la tags.length lcap); refine (hr1.out _ _ hrd).mono ?_; rintro e w' ⟨rfl, rfl⟩) | (go_at_call_of 72 (Value.slice ba blks.length bcap); refine (hr2.out _ _ hrb).mono ?_; rintro e w' ⟨rfl, rfl⟩)); all_goals (go_ret; exact ⟨rfl, hnx⟩)
          · by_cases hz1 : (3 : Int) = 2 ∧ (tags.length < 1 ∨ 10 < tags.length) ∨ (3 : Int) = 3 ∧ (blks.length < 1 ∨ 20 < blks.length)
            · first
              | (exfalso; omega)
              | (obtain rfl := hE.out.1 (.inr (.inr (hz1.imp (fun h => absurd h.1 (by decide)) (fun h => ⟨trivial, h.2⟩))))
                 go_wp2_with (first | (go_at_call_of 72 (Value.slice la tags.length lcap); refine (hr1.out _ _ hrd).mono ?_; rintro e w' ⟨rfl, rfl⟩) | (go_at_call_of 72 (Value.slice ba blks.length bcap); refine (hr2.out _ _ hrb).mono ?_; rintro e w' ⟨rfl, rfl⟩)); all_goals (go_ret; exact ⟨rfl, hnx⟩))
            · obtain rfl := hE.out.2 rfl rfl (by omega) (by omega)
              go_wp2_with (first | (go_at_call_of 72 (Value.slice la tags.length lcap); refine (hr1.out _ _ hrd).mono ?_; rintro e w' ⟨rfl, rfl⟩) | (go_at_call_of 72 (Value.slice ba blks.length bcap); refine (hr2.out _ _ hrb).mono ?_; rintro e w' ⟨rfl, rfl⟩)); all_goals (go_ret; exact ⟨rfl, hnx⟩)
  · replace e1 := e1 (by decide)
    replace e2 := e2 (by decide)
    replace g2 : tags.length ≤ 0 := by omega
    replace g3 : blks.length ≤ 0 := by omega
    obtain rfl : at_ = 0 := by omega
    clear g1
    go_enter Tryd.func76, Tryd.ntmps76
    have kb0 : Blk (w.alloc (.cells #[.int .i64 4, .int .i64 sq, .int .i64 0, .slice ta tags.length tcap, .slice ba blks.length bcap] 81)) w.heap.size #[.int .i64 4, .int .i64 sq, .int .i64 0, .slice ta tags.length tcap, .slice ba blks.length bcap] 81 := Blk.new w _ _
    go_wp2
    go_loopw [3, 5, 65] (fun vl _ i wr => ∃ k : Nat, k ≤ tags.length ∧ i = .int .i64 k ∧ Own intC (w.heap.size + 1) 3 1 wr vl ((tags.map (·.block)).take k) ∧ Blk wr w.heap.size #[.int .i64 4, .int .i64 sq, .int .i64 0, .slice ta tags.length tcap, .slice ba blks.length bcap] 81 ∧ Below w.heap.size w wr) (fun _ _ i _ => tags.length - (intOf i).toNat)
    case atStart => exact ⟨0, Nat.zero_le _, rfl, by simpa using Own.nil _ _ _ _ _, kb0, by repeat (first | exact Below.refl _ _ | with_reducible assumption | (refine allocB ?_ (by first | omega | (simp; done) | (simp; omega)) _) | (refine Below.setCell ?_ (by first | omega | (simp; done) | (simp; omega)) _) | refine Below.drew ?_ | (refine Below.trans ?_ (Below.mono (by with_reducible assumption) (by first | omega | (simp; done) | (simp; omega)))))⟩
    case round =>
      obtain ⟨k, hk, rfl, hown, kb, hnx⟩ := hrel
      have c0 := kb.cell 0
      have c3 := kb.cell 3
      have c4 := kb.cell 4
      simp only [List.getElem?_toArray, List.getElem?_cons_zero, List.getElem?_cons_succ] at c0 c3 c4
      have lt0 := kb.lt
      have lz := hnx.size
      by_cases hlt : k < tags.length
      · exfalso; omega
      · obtain rfl : k = tags.length := by omega
        have hrd := hown.reads
        rw [List.take_of_length_le (by rw [List.length_map]; exact Nat.le_refl _)] at hrd
        obtain ⟨la, lcap, hu, lc1, lc2⟩ := hrd.form
        rw [List.length_map] at hu
        subst hu
        have hrb := hbk.below hnx
        clear hown
        cases x1
        · obtain rfl := hE.out.1 (.inl rfl)
          go_wp2_with (first | (go_at_call_of 72 (Value.slice la tags.length lcap); refine (hr1.out _ _ hrd).mono ?_; rintro e w' ⟨rfl, rfl⟩) | (go_at_call_of 72 (Value.slice ba blks.length bcap); refine (hr2.out _ _ hrb).mono ?_; rintro e w' ⟨rfl, rfl⟩)); all_goals (go_ret; exact ⟨rfl, hnx⟩)
        · cases x2
          · obtain rfl := hE.out.1 (.inr (.inl rfl))
            go_wp2_with (first | (go_at_call_of 72 (Value.slice la tags.length lcap); refine (hr1.out _ _ hrd).mono ?_; rintro e w' ⟨rfl, rfl⟩) | (go_at_call_of 72 (Value.slice ba blks.length bcap); refine (hr2.out _ _ hrb).mono ?_; rintro e w' ⟨rfl, rfl⟩)); all_goals (go_ret; exact ⟨rfl, hnx⟩)
          · by_cases hz1 : (4 : Int) = 2 ∧ (tags.length < 1 ∨ 10 < tags.length) ∨ (4 : Int) = 3 ∧ (blks.length < 1 ∨ 20 < blks.length)
            · first
              | (exfalso; omega)
              | (obtain rfl := hE.out.1 (by simp; omega)
                 go_wp2_with (first | (go_at_call_of 72 (Value.slice la tags.length lcap); refine (hr1.out _ _ hrd).mono ?_; rintro e w' ⟨rfl, rfl⟩) | (go_at_call_of 72 (Value.slice ba blks.length bcap); refine (hr2.out _ _ hrb).mono ?_; rintro e w' ⟨rfl, rfl⟩)); all_goals (go_ret; exact ⟨rfl, hnx⟩))
            · obtain rfl := hE.out.2 rfl rfl (by omega) (by omega)
              go_wp2_with (first | (go_at_call_of 72 (Value.slice la tags.length lcap); refine (hr1.out _ _ hrd).mono ?_; rintro e w' ⟨rfl, rfl⟩) | (go_at_call_of 72 (Value.slice ba blks.length bcap); refine (hr2.out _ _ hrb).mono ?_; rintro e w' ⟨rfl, rfl⟩)); all_goals (go_ret; exact ⟨rfl, hnx⟩)

theorem ref_GoodMark (m : Mrk) (v : Value) (w : World) (hm : RMark w v m) :
    Calls Tryd.prog 76 #[v] w fun e w' => e = .returned (.int .i64 (markE m)) ∧ Below w.heap.size w w' := by
  by_cases hbad : badKind m ∨ badNum m ∨ badForm m
  · exact ref_GoodMark_bad m v w hm hbad
  · simp only [not_or] at hbad
    exact ref_GoodMark_ok m v w hm hbad.1 hbad.2.1 hbad.2.2
end Go.Proofs.YtjhmfljlclajnabDoor
