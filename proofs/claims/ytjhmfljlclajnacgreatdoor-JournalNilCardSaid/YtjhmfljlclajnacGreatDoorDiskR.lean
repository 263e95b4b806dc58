/- The walk of the reference's GoodDisk. -/
import Derived.Test.YtjhmfljlclajnacGreatDoorDisk
namespace Go.Proofs.YtjhmfljlclajnacGreatDoor
open Go.RowKit Wb
set_option linter.unusedVariables false
set_option linter.unusedSimpArgs false
set_option maxRecDepth 100000
set_option maxHeartbeats 4000000

theorem ref_GoodDisk (d : Dsk) (v : Value) (w : World) (hd : RDisk w v d) :
    Calls Tryz.prog 96 #[v] w fun e w' => e = .returned (.bool (goodD d)) ∧ Below w.heap.size w w' := by
  obtain ⟨vs, vw, rfl, hs, hw, n1, n2⟩ := hd
  obtain ⟨safe, writes⟩ := d
  dsimp only at *
  have hgi := goodD_iff ⟨safe, writes⟩
  dsimp only at hgi
  have hno : (¬ (safe.length = 37 ∧ writes.length ≤ 200 ∧ safe.all ok32 = true ∧ writes.all wrOk = true)) → goodD ⟨safe, writes⟩ = false := fun hh => by
    rw [← Bool.not_eq_true]; exact fun h2 => hh (hgi.1 h2)
  have hyes := hgi.2
  clear hgi
  generalize goodD ⟨safe, writes⟩ = g at *
  replace hno := hid hno
  replace hyes := hid hyes
  obtain ⟨a, cap, rfl, _⟩ := hs.form
  obtain ⟨b, bcap, rfl, _⟩ := hw.form
  replace hs := hid hs
  replace hw := hid hw
  have kb : Blk (w.alloc (.cells #[.slice a safe.length cap, .slice b writes.length bcap] 46)) w.heap.size #[.slice a safe.length cap, .slice b writes.length bcap] 46 := Blk.new w _ _
  have nf : 0 < w.heap.size + 1 := by omega
  go_enter Tryz.func96, Tryz.ntmps96
  go_wp2
  go_loop [4, 10] (fun _ i => ∃ k : Nat, k ≤ safe.length ∧ i = .int .i64 k ∧ Hid ((safe.take k).all ok32 = true)) (fun _ i => safe.length - (intOf i).toNat)
  case atStart => exact ⟨0, Nat.zero_le _, rfl, rfl⟩
  case round =>
    obtain ⟨k, hk, rfl, hall⟩ := hrel
    by_cases hlt : k < safe.length
    · obtain ⟨b, off, rfl, d0⟩ := RL.at1 (fun x => .string x) (fun _ => rfl) hs.out hlt
      have lt1 := World.block_lt_of_cell? _ _ d0
      dsimp only at lt1
      by_cases ht : ok32 safe[k] = true
      · have hst := hid (all_step hlt hall.out ht)
        have e2 : ((safe[k].size : Int) != 32) = false := by rw [of_decide_eq_true ht]; rfl
        clear ht hall hno hyes
        generalize safe[k] = x at *
        go_wp2
        go_round
        case rel => exact ⟨k + 1, by omega, by go_num, hst⟩
        case measure => simp [intOf]; omega
      · obtain rfl := hno.out (fun hh => by
          have := all_no hlt (p := ok32) (Bool.not_eq_true _ |>.mp ht)
          rw [this] at hh; exact Bool.noConfusion hh.2.2.1)
        have e2 : ((safe[k].size : Int) != 32) = true := bne_iff_ne.2 (fun hh => ht (decide_eq_true (by omega)))
        clear ht hall hno hyes
        generalize safe[k] = x at *
        go_wp2
        go_ret
        exact ⟨rfl, by repeat (first | exact Below.refl _ _ | with_reducible assumption | (refine allocB ?_ (by first | omega | (simp; done) | (simp; omega)) _) | (refine Below.setCell ?_ (by first | omega | (simp; done) | (simp; omega)) _) | refine Below.drew ?_ | (refine Below.trans ?_ (Below.mono (by with_reducible assumption) (by first | omega | (simp; done) | (simp; omega)))))⟩
    · have hfs := hid (all_full hk hlt hall.out)
      clear hall
      go_wp2
      go_loopw [6, 21] (fun _ i wr => ∃ k : Nat, k ≤ writes.length ∧ i = .int .i64 k ∧ Hid ((writes.take k).all wrOk = true) ∧ Blk wr w.heap.size #[.slice a safe.length cap, .slice b writes.length bcap] 46 ∧ Below w.heap.size w wr) (fun _ i _ => writes.length - (intOf i).toNat)
      case atStart => exact ⟨0, Nat.zero_le _, rfl, rfl, kb, by repeat (first | exact Below.refl _ _ | with_reducible assumption | (refine allocB ?_ (by first | omega | (simp; done) | (simp; omega)) _) | (refine Below.setCell ?_ (by first | omega | (simp; done) | (simp; omega)) _) | refine Below.drew ?_ | (refine Below.trans ?_ (Below.mono (by with_reducible assumption) (by first | omega | (simp; done) | (simp; omega)))))⟩
      case round =>
        obtain ⟨k, hk, rfl, hall, kb, hnx⟩ := hrel
        have lt0 := kb.lt
        by_cases hlt : k < writes.length
        · obtain ⟨b, off, rfl, d0, d1⟩ := RL.at2 (fun x => .int .i64 x.at_) (fun x => .string x.text) (fun _ => rfl) (hw.out.below hnx) hlt
          have lt1 := World.block_lt_of_cell? _ _ d0
          dsimp only at lt1
          have hA := fun w => ref_isAt writes[k].at_ w
          by_cases ht : ok32 writes[k].text = true
          · have e2 : ((writes[k].text.size : Int) != 32) = false := by rw [of_decide_eq_true ht]; rfl
            by_cases ha : isAt writes[k].at_ = true
            · rw [ha] at hA
              replace hA := hid hA
              have hst := hid (all_step hlt hall.out (by unfold wrOk; rw [ha, ht]; rfl))
              clear ha ht hall hno hyes
              generalize writes[k] = x at *
              go_wp2_with (go_at_call 105; refine (hA.out _).mono ?_; rintro e w1 ⟨rfl, rfl⟩)
              go_roundw
              case rel => exact ⟨k + 1, by omega, by go_num, hst, kb.alloc _, allocB hnx (by omega) _⟩
              case measure => simp [intOf]; omega
            · obtain rfl := hno.out (fun hh => by
                have := all_no hlt (p := wrOk) (by unfold wrOk; rw [Bool.not_eq_true _ |>.mp ha]; rfl)
                rw [this] at hh; exact Bool.noConfusion hh.2.2.2)
              rw [Bool.not_eq_true _ |>.mp ha] at hA
              replace hA := hid hA
              clear ha ht hall hno hyes
              generalize writes[k] = x at *
              go_wp2_with (go_at_call 105; refine (hA.out _).mono ?_; rintro e w1 ⟨rfl, rfl⟩)
              go_ret
              exact ⟨rfl, allocB hnx (by omega) _⟩
          · obtain rfl := hno.out (fun hh => by
              have := all_no hlt (p := wrOk) (by unfold wrOk; rw [Bool.not_eq_true _ |>.mp ht, Bool.and_false])
              rw [this] at hh; exact Bool.noConfusion hh.2.2.2)
            have e2 : ((writes[k].text.size : Int) != 32) = true := bne_iff_ne.2 (fun hh => ht (decide_eq_true (by omega)))
            clear ht hall hno hyes hA
            generalize writes[k] = x at *
            go_wp2
            go_ret
            exact ⟨rfl, allocB hnx (by omega) _⟩
        · have hf := hid (all_full hk hlt hall.out)
          have c0 := kb.cell 0
          have c1 := kb.cell 1
          simp only [List.getElem?_toArray, List.getElem?_cons_zero, List.getElem?_cons_succ] at c0 c1
          clear hall
          by_cases h37 : safe.length = 37
          · have e1 : ((safe.length : Int) == 37) = true := by rw [h37]; rfl
            by_cases h200 : writes.length ≤ 200
            · obtain rfl := hyes.out ⟨h37, h200, hfs.out, hf.out⟩
              clear hno hyes
              replace h37 := hid h37
              go_wp2
              go_ret
              exact ⟨ret_b (decide_eq_true (by omega)), hnx⟩
            · obtain rfl := hno.out (fun hh => h200 hh.2.1)
              clear hno hyes
              replace h37 := hid h37
              go_wp2
              go_ret
              exact ⟨ret_b (decide_eq_false (by omega)), hnx⟩
          · obtain rfl := hno.out (fun hh => h37 hh.1)
            have e1 : ((safe.length : Int) == 37) = false := beq_eq_false_iff_ne.2 (by omega)
            clear hno hyes
            replace h37 := hid h37
            go_wp2
            go_ret
            exact ⟨rfl, hnx⟩
end Go.Proofs.YtjhmfljlclajnacGreatDoor
