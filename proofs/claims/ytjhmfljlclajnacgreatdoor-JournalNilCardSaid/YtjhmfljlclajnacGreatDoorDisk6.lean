/- The walks of SameDisk and sameDisk, of disks that are alike. -/
import Derived.Test.YtjhmfljlclajnacGreatDoorDisk5
namespace Go.Proofs.YtjhmfljlclajnacGreatDoor
open Go.RowKit Wb
set_option linter.unusedVariables false
set_option linter.unusedSimpArgs false
set_option maxRecDepth 100000
set_option maxHeartbeats 4000000

theorem ref_SameDisk (d : Dsk) (v1 v2 : Value) (w : World) (hd1 : RDisk w v1 d) (hd2 : RDisk w v2 d) :
    Calls Tryz.prog 14 #[v1, v2] w fun e w' => e = .returned (.bool true) ∧ Below w.heap.size w w' := by
  obtain ⟨vs, vw, rfl, hs, hw, n1, n2⟩ := hd1
  obtain ⟨vs2, vw2, rfl, hs2, hw2, _, _⟩ := hd2
  obtain ⟨safe, writes⟩ := d
  dsimp only at *
  obtain ⟨a, cap, rfl, _⟩ := hs.form
  obtain ⟨b, bcap, rfl, _⟩ := hw.form
  obtain ⟨a2, cap2, rfl, _⟩ := hs2.form
  obtain ⟨b2, bcap2, rfl, _⟩ := hw2.form
  replace hs := hid hs; replace hw := hid hw; replace hs2 := hid hs2; replace hw2 := hid hw2
  go_enter Tryz.func14, Tryz.ntmps14
  go_wp2
  go_loopw [5, 26] (fun _ i wr => ∃ k : Nat, k ≤ safe.length ∧ i = .int .i64 k ∧ Blk wr w.heap.size #[.slice a safe.length cap, .slice b writes.length bcap] 46 ∧ Blk wr (w.heap.size + 1) #[.slice a2 safe.length cap2, .slice b2 writes.length bcap2] 46 ∧ Below w.heap.size w wr) (fun _ i _ => safe.length - (intOf i).toNat)
  case atStart => exact ⟨0, Nat.zero_le _, rfl, (Blk.new w _ _).alloc _, Blk.newAt (by simp), by repeat (first | exact Below.refl _ _ | with_reducible assumption | (refine allocB ?_ (by first | omega | (simp; done) | (simp; omega)) _) | (refine Below.setCell ?_ (by first | omega | (simp; done) | (simp; omega)) _) | refine Below.drew ?_ | (refine Below.trans ?_ (Below.mono (by with_reducible assumption) (by first | omega | (simp; done) | (simp; omega)))))⟩
  case round =>
    obtain ⟨k, hk, rfl, k0, k1, hnx⟩ := hrel
    have c0 := k0.cell 0
    have c1 := k0.cell 1
    have e0 := k1.cell 0
    have e1 := k1.cell 1
    simp only [List.getElem?_toArray, List.getElem?_cons_zero, List.getElem?_cons_succ] at c0 c1 e0 e1
    by_cases hlt : k < safe.length
    · obtain ⟨x1, o1, rfl, d0⟩ := RL.at1 (fun x => .string x) (fun _ => rfl) (hs.out.below hnx) hlt
      obtain ⟨x2, o2, rfl, d1⟩ := RL.at1 (fun x => .string x) (fun _ => rfl) (hs2.out.below hnx) hlt
      generalize safe[k] = x at *
      go_wp2
      go_quiet (fail)
      go_wp2
      go_roundw
      case rel => exact ⟨k + 1, by omega, by go_num, k0, k1, belowDrewN hnx⟩
      case measure => simp [intOf]; omega
    · go_wp2
      go_loopw [6, 44] (fun _ i wr => ∃ k : Nat, k ≤ writes.length ∧ i = .int .i64 k ∧ Blk wr w.heap.size #[.slice a safe.length cap, .slice b writes.length bcap] 46 ∧ Blk wr (w.heap.size + 1) #[.slice a2 safe.length cap2, .slice b2 writes.length bcap2] 46 ∧ Below w.heap.size w wr) (fun _ i _ => writes.length - (intOf i).toNat)
      case atStart => exact ⟨0, Nat.zero_le _, rfl, k0, k1, hnx⟩
      case round =>
        clear c0 c1 e0 e1 k0 k1 hnx
        obtain ⟨k, hk, rfl, k0, k1, hnx⟩ := hrel
        have c1 := k0.cell 1
        have e1 := k1.cell 1
        simp only [List.getElem?_toArray, List.getElem?_cons_zero, List.getElem?_cons_succ] at c1 e1
        by_cases hlt : k < writes.length
        · obtain ⟨x1, o1, rfl, d0, d00⟩ := RL.at2 (fun x => .int .i64 x.at_) (fun x => .string x.text) (fun _ => rfl) (hw.out.below hnx) hlt
          obtain ⟨x2, o2, rfl, d1, d11⟩ := RL.at2 (fun x => .int .i64 x.at_) (fun x => .string x.text) (fun _ => rfl) (hw2.out.below hnx) hlt
          generalize writes[k] = x at *
          go_wp2
          go_quiet (fail)
          go_wp2
          go_roundw
          case rel => exact ⟨k + 1, by omega, by go_num, k0, k1, belowDrewN hnx⟩
          case measure => simp [intOf]; omega
        · go_wp2
          go_ret
          exact ⟨rfl, hnx⟩
end Go.Proofs.YtjhmfljlclajnacGreatDoor
