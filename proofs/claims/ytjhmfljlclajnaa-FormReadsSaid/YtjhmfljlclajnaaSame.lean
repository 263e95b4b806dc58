/- The walks of SameMark and sameDisk, of disks that are alike. -/
import Derived.Test.YtjhmfljlclajnaaMarks2
import Derived.Test.YtjhmfljlclajnaaRegCall
namespace Go.Proofs.Ytjhmfljlclajnaa
open Go.RowKit Wb
set_option linter.unusedVariables false
set_option linter.unusedSimpArgs false
set_option maxRecDepth 100000
set_option maxHeartbeats 4000000

theorem keep_sameMark (m : Mrk) (v1 v2 : Value) (w : World) (hd1 : RMark w v1 m) (hd2 : RMark w v2 m) :
    Calls Try.prog 60 #[v1, v2] w fun e w' => e = .returned (.bool true) ∧ Below w.heap.size w w' := by
  obtain ⟨vt, vb, rfl, ht, hb, n1, n2⟩ := hd1
  obtain ⟨vt2, vb2, rfl, ht2, hb2, _, _⟩ := hd2
  obtain ⟨mk, mq, ma, tags, blocks⟩ := m
  dsimp only at *
  obtain ⟨a, cap, rfl, _⟩ := ht.form
  obtain ⟨b, bcap, rfl, _⟩ := hb.form
  obtain ⟨a2, cap2, rfl, _⟩ := ht2.form
  obtain ⟨b2, bcap2, rfl, _⟩ := hb2.form
  replace ht := hid ht; replace hb := hid hb; replace ht2 := hid ht2; replace hb2 := hid hb2
  go_enter Try.func60, Try.ntmps60
  go_wp2
  go_loopw [5, 47] (fun _ i wr => ∃ k : Nat, k ≤ tags.length ∧ i = .int .i64 k ∧ Blk wr w.heap.size #[.int .i64 mk, .int .i64 mq, .int .i64 ma, .slice a tags.length cap, .slice b blocks.length bcap] 43 ∧ Blk wr (w.heap.size + 1) #[.int .i64 mk, .int .i64 mq, .int .i64 ma, .slice a2 tags.length cap2, .slice b2 blocks.length bcap2] 43 ∧ Below w.heap.size w wr) (fun _ i _ => tags.length - (intOf i).toNat)
  case atStart => exact ⟨0, Nat.zero_le _, rfl, (Blk.new w _ _).alloc _, Blk.newAt (by simp), by repeat (first | exact Below.refl _ _ | with_reducible assumption | (refine allocB ?_ (by first | omega | (simp; done) | (simp; omega)) _) | (refine Below.setCell ?_ (by first | omega | (simp; done) | (simp; omega)) _) | refine Below.drew ?_ | (refine Below.trans ?_ (Below.mono (by with_reducible assumption) (by first | omega | (simp; done) | (simp; omega)))))⟩
  case round =>
    obtain ⟨k, hk, rfl, k0, k1, hnx⟩ := hrel
    have c3 := k0.cell 3
    have c4 := k0.cell 4
    have e3 := k1.cell 3
    have e4 := k1.cell 4
    simp only [List.getElem?_toArray, List.getElem?_cons_zero, List.getElem?_cons_succ] at c3 c4 e3 e4
    by_cases hlt : k < tags.length
    · obtain ⟨x1, o1, rfl, d0, d00⟩ := RL.at2 (fun x => .int .i64 x.block) (fun x => .bool x.esc) (fun _ => rfl) (ht.out.below hnx) hlt
      obtain ⟨x2, o2, rfl, d1, d11⟩ := RL.at2 (fun x => .int .i64 x.block) (fun x => .bool x.esc) (fun _ => rfl) (ht2.out.below hnx) hlt
      generalize tags[k] = x at *
      go_wp2
      go_quiet (fail)
      go_wp2
      go_roundw
      case rel => exact ⟨k + 1, by omega, by go_num, k0, k1, belowDrewN hnx⟩
      case measure => simp [intOf]; omega
    · go_wp2
      go_loopw [6, 65] (fun _ i wr => ∃ k : Nat, k ≤ blocks.length ∧ i = .int .i64 k ∧ Blk wr w.heap.size #[.int .i64 mk, .int .i64 mq, .int .i64 ma, .slice a tags.length cap, .slice b blocks.length bcap] 43 ∧ Blk wr (w.heap.size + 1) #[.int .i64 mk, .int .i64 mq, .int .i64 ma, .slice a2 tags.length cap2, .slice b2 blocks.length bcap2] 43 ∧ Below w.heap.size w wr) (fun _ i _ => blocks.length - (intOf i).toNat)
      case atStart => exact ⟨0, Nat.zero_le _, rfl, k0, k1, hnx⟩
      case round =>
        clear c3 c4 e3 e4 k0 k1 hnx
        obtain ⟨k, hk, rfl, k0, k1, hnx⟩ := hrel
        have c4 := k0.cell 4
        have e4 := k1.cell 4
        simp only [List.getElem?_toArray, List.getElem?_cons_zero, List.getElem?_cons_succ] at c4 e4
        by_cases hlt : k < blocks.length
        · obtain ⟨x1, o1, rfl, d0⟩ := RL.at1 (fun x => .int .i64 x) (fun _ => rfl) (hb.out.below hnx) hlt
          obtain ⟨x2, o2, rfl, d1⟩ := RL.at1 (fun x => .int .i64 x) (fun _ => rfl) (hb2.out.below hnx) hlt
          generalize blocks[k] = x at *
          go_wp2
          go_quiet (fail)
          go_wp2
          go_roundw
          case rel => exact ⟨k + 1, by omega, by go_num, k0, k1, belowDrewN hnx⟩
          case measure => simp [intOf]; omega
        · go_wp2
          go_ret
          exact ⟨rfl, hnx⟩
theorem ref_SameMark (m : Mrk) (v1 v2 : Value) (w : World) (hd1 : RMark w v1 m) (hd2 : RMark w v2 m) :
    Calls Try.prog 58 #[v1, v2] w fun e w' => e = .returned (.bool true) ∧ Below w.heap.size w w' := by
  obtain ⟨vt, vb, rfl, ht, hb, n1, n2⟩ := hd1
  obtain ⟨vt2, vb2, rfl, ht2, hb2, _, _⟩ := hd2
  obtain ⟨mk, mq, ma, tags, blocks⟩ := m
  dsimp only at *
  obtain ⟨a, cap, rfl, _⟩ := ht.form
  obtain ⟨b, bcap, rfl, _⟩ := hb.form
  obtain ⟨a2, cap2, rfl, _⟩ := ht2.form
  obtain ⟨b2, bcap2, rfl, _⟩ := hb2.form
  replace ht := hid ht; replace hb := hid hb; replace ht2 := hid ht2; replace hb2 := hid hb2
  go_enter Try.func58, Try.ntmps58
  go_wp2
  go_loopw [5, 47] (fun _ i wr => ∃ k : Nat, k ≤ tags.length ∧ i = .int .i64 k ∧ Blk wr w.heap.size #[.int .i64 mk, .int .i64 mq, .int .i64 ma, .slice a tags.length cap, .slice b blocks.length bcap] 43 ∧ Blk wr (w.heap.size + 1) #[.int .i64 mk, .int .i64 mq, .int .i64 ma, .slice a2 tags.length cap2, .slice b2 blocks.length bcap2] 43 ∧ Below w.heap.size w wr) (fun _ i _ => tags.length - (intOf i).toNat)
  case atStart => exact ⟨0, Nat.zero_le _, rfl, (Blk.new w _ _).alloc _, Blk.newAt (by simp), by repeat (first | exact Below.refl _ _ | with_reducible assumption | (refine allocB ?_ (by first | omega | (simp; done) | (simp; omega)) _) | (refine Below.setCell ?_ (by first | omega | (simp; done) | (simp; omega)) _) | refine Below.drew ?_ | (refine Below.trans ?_ (Below.mono (by with_reducible assumption) (by first | omega | (simp; done) | (simp; omega)))))⟩
  case round =>
    obtain ⟨k, hk, rfl, k0, k1, hnx⟩ := hrel
    have c3 := k0.cell 3
    have c4 := k0.cell 4
    have e3 := k1.cell 3
    have e4 := k1.cell 4
    simp only [List.getElem?_toArray, List.getElem?_cons_zero, List.getElem?_cons_succ] at c3 c4 e3 e4
    by_cases hlt : k < tags.length
    · obtain ⟨x1, o1, rfl, d0, d00⟩ := RL.at2 (fun x => .int .i64 x.block) (fun x => .bool x.esc) (fun _ => rfl) (ht.out.below hnx) hlt
      obtain ⟨x2, o2, rfl, d1, d11⟩ := RL.at2 (fun x => .int .i64 x.block) (fun x => .bool x.esc) (fun _ => rfl) (ht2.out.below hnx) hlt
      generalize tags[k] = x at *
      go_wp2
      go_quiet (fail)
      go_wp2
      go_roundw
      case rel => exact ⟨k + 1, by omega, by go_num, k0, k1, belowDrewN hnx⟩
      case measure => simp [intOf]; omega
    · go_wp2
      go_loopw [6, 65] (fun _ i wr => ∃ k : Nat, k ≤ blocks.length ∧ i = .int .i64 k ∧ Blk wr w.heap.size #[.int .i64 mk, .int .i64 mq, .int .i64 ma, .slice a tags.length cap, .slice b blocks.length bcap] 43 ∧ Blk wr (w.heap.size + 1) #[.int .i64 mk, .int .i64 mq, .int .i64 ma, .slice a2 tags.length cap2, .slice b2 blocks.length bcap2] 43 ∧ Below w.heap.size w wr) (fun _ i _ => blocks.length - (intOf i).toNat)
      case atStart => exact ⟨0, Nat.zero_le _, rfl, k0, k1, hnx⟩
      case round =>
        clear c3 c4 e3 e4 k0 k1 hnx
        obtain ⟨k, hk, rfl, k0, k1, hnx⟩ := hrel
        have c4 := k0.cell 4
        have e4 := k1.cell 4
        simp only [List.getElem?_toArray, List.getElem?_cons_zero, List.getElem?_cons_succ] at c4 e4
        by_cases hlt : k < blocks.length
        · obtain ⟨x1, o1, rfl, d0⟩ := RL.at1 (fun x => .int .i64 x) (fun _ => rfl) (hb.out.below hnx) hlt
          obtain ⟨x2, o2, rfl, d1⟩ := RL.at1 (fun x => .int .i64 x) (fun _ => rfl) (hb2.out.below hnx) hlt
          generalize blocks[k] = x at *
          go_wp2
          go_quiet (fail)
          go_wp2
          go_roundw
          case rel => exact ⟨k + 1, by omega, by go_num, k0, k1, belowDrewN hnx⟩
          case measure => simp [intOf]; omega
        · go_wp2
          go_ret
          exact ⟨rfl, hnx⟩
theorem keep_marks (w : World) : Calls Try.prog 59 #[] w fun e w' => e = .returned (.bool true) ∧ Below w.heap.size w w' := by
  have hE := fun w => stamp_Encode mk0 _ w ⟨_, _, rfl, RL.nil _ _, RL.nil _ _, by decide, by decide⟩
  rw [mk0_E, mk0_S] at hE
  unfold mk0 at hE
  dsimp only at hE
  replace hE := hid hE
  have hx : (⟨#[87, 66, 75, 49, 4, 0, 0, 1, 2, 0, 0, 0, 0, 0, 0, 0, 0, 0, 0, 0, 0, 0, 0, 0, 0, 0, 0, 0, 0, 0, 0, 0]⟩ : ByteArray).extract 0 10 = ⟨#[87, 66, 75, 49, 4, 0, 0, 1, 2, 0]⟩ := by
    apply ba_ext; rw [Lib.extract_data]; rfl
  go_enter Try.func59, Try.ntmps59
  go_wp2_with (go_at_call 29; refine (hE.out _).mono ?_; rintro e w1 ⟨rfl, hb1⟩)
  go_ret
  exact ⟨rfl, by repeat (first | exact Below.refl _ _ | with_reducible assumption | (refine allocB ?_ (by first | omega | (simp; done) | (simp; omega)) _) | (refine Below.setCell ?_ (by first | omega | (simp; done) | (simp; omega)) _) | refine Below.drew ?_ | (refine Below.trans ?_ (Below.mono (by with_reducible assumption) (by first | omega | (simp; done) | (simp; omega)))))⟩

end Go.Proofs.Ytjhmfljlclajnaa
