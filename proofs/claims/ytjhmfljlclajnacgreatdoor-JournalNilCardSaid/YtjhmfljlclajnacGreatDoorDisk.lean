/- The walks of disk: at, Good. -/
import Derived.Test.YtjhmfljlclajnacGreatDoorRows
import Derived.Test.YtjhmfljlclajnacGreatDoorDskP
import Derived.BigQuiet
import Derived.Deep.RegionWith
namespace Go.Proofs.YtjhmfljlclajnacGreatDoor
open Go.RowKit Wb
set_option linter.unusedVariables false
set_option linter.unusedSimpArgs false
set_option maxRecDepth 100000
set_option maxHeartbeats 4000000

theorem disk_at (n : Int) (w : World) : Calls Tryz.prog 111 #[.int .i64 n] w fun e w' => e = .returned (.bool (isAt n)) ∧ w = w' := by
  by_cases h0 : 0 ≤ n
  · by_cases h1 : n < 37
    · have hv : isAt n = true := decide_eq_true ⟨h0, h1⟩
      rw [hv]
      go_enter Tryz.func111, Tryz.ntmps111
      go_wp2
      go_ret
      exact ⟨rfl, rfl⟩
    · have hv : isAt n = false := decide_eq_false fun hh => h1 hh.2
      rw [hv]
      go_enter Tryz.func111, Tryz.ntmps111
      go_wp2
      go_ret
      exact ⟨rfl, rfl⟩
  · have hv : isAt n = false := decide_eq_false fun hh => h0 hh.1
    rw [hv]
    go_enter Tryz.func111, Tryz.ntmps111
    go_wp2
    go_ret
    exact ⟨rfl, rfl⟩

theorem ref_isAt (n : Int) (w : World) : Calls Tryz.prog 105 #[.int .i64 n] w fun e w' => e = .returned (.bool (isAt n)) ∧ w = w' := by
  by_cases h0 : 0 ≤ n
  · by_cases h1 : n ≤ 36
    · have hv : isAt n = true := decide_eq_true ⟨h0, by omega⟩
      rw [hv]
      go_enter Tryz.func105, Tryz.ntmps105
      go_wp2
      go_ret
      exact ⟨rfl, rfl⟩
    · have hv : isAt n = false := decide_eq_false fun hh => h1 (by omega)
      rw [hv]
      go_enter Tryz.func105, Tryz.ntmps105
      go_wp2
      go_ret
      exact ⟨rfl, rfl⟩
  · have hv : isAt n = false := decide_eq_false fun hh => h0 hh.1
    rw [hv]
    go_enter Tryz.func105, Tryz.ntmps105
    go_wp2
    go_ret
    exact ⟨rfl, rfl⟩

theorem disk_Good1 (s : ByteArray) (w : World) : Calls Tryz.prog 149 #[.string s] w fun e w' => e = .returned (.bool (!ok32 s)) ∧ w = w' := by
  by_cases h0 : s.size = 32
  · have hv : ok32 s = true := decide_eq_true h0
    rw [hv]
    have h1 : ((s.size : Int) != 32) = false := by rw [h0]; rfl
    go_enter Tryz.func149, Tryz.ntmps149
    go_wp2
    go_ret
    exact ⟨rfl, rfl⟩
  · have hv : ok32 s = false := decide_eq_false h0
    rw [hv]
    have h1 : ((s.size : Int) != 32) = true := bne_iff_ne.2 (by omega)
    go_enter Tryz.func149, Tryz.ntmps149
    go_wp2
    go_ret
    exact ⟨rfl, rfl⟩

theorem slices_IndexFunc (v : Value) (xs : List ByteArray) (w : World) (hx : RL strC w v xs) (hn : xs.length ≤ 8796093022208) :
    Calls Tryz.prog 173 #[v, .func (.func 149) #[] #[]] w fun e w' => (∃ r : Int, e = .returned (.int .i64 r) ∧ idxIs (xs.all ok32) r) ∧ w = w' := by
  obtain ⟨a, cap, rfl, c1, c2⟩ := hx.form
  have hno := fun k (hk : k < xs.length) (hp : ok32 xs[k] = false) => all_no hk hp
  have hful := fun k (hk : k ≤ xs.length) (hn : ¬ k < xs.length) (hp : (xs.take k).all ok32 = true) => all_full hk hn hp
  generalize xs.all ok32 = ai at *
  replace hno := hid hno
  replace hful := hid hful
  go_enter Tryz.func173, Tryz.ntmps173
  go_wp2
  go_loop [5, 8] (fun _ i => ∃ k : Nat, k ≤ xs.length ∧ i = .int .i64 k ∧ Hid ((xs.take k).all ok32 = true)) (fun _ i => xs.length - (intOf i).toNat)
  case atStart => exact ⟨0, Nat.zero_le _, rfl, rfl⟩
  case round =>
    obtain ⟨k, hk, rfl, hall⟩ := hrel
    by_cases hlt : k < xs.length
    · obtain ⟨b, off, rfl, d0⟩ := RL.at1 (fun x => .string x) (fun _ => rfl) hx hlt
      have hG := fun w => disk_Good1 xs[k] w
      cases hb : ok32 xs[k]
      · rw [hb] at hG
        obtain rfl := hno.out k hlt hb
        replace hG := hid hG
        clear hall hb
        generalize xs[k] = x at *
        go_wp2_with (go_at_call 149; refine (hG.out _).mono ?_; rintro e w1 ⟨rfl, rfl⟩)
        go_ret
        exact ⟨⟨_, rfl, Int.natCast_nonneg _⟩, rfl⟩
      · rw [hb] at hG
        have hs := hid (all_step hlt hall.out hb)
        replace hG := hid hG
        clear hall hb
        generalize xs[k] = x at *
        go_wp2_with (go_at_call 149; refine (hG.out _).mono ?_; rintro e w1 ⟨rfl, rfl⟩)
        go_round
        case rel => exact ⟨k + 1, by omega, by go_num, hs.out⟩
        case measure => simp [intOf]; omega
    · obtain rfl := hful.out k hk hlt hall.out
      clear hall
      go_wp2
      go_ret
      exact ⟨⟨_, rfl, rfl⟩, rfl⟩

theorem slices_ContainsFunc (v : Value) (xs : List ByteArray) (w : World) (hx : RL strC w v xs) (hn : xs.length ≤ 8796093022208) :
    Calls Tryz.prog 148 #[v, .func (.func 149) #[] #[]] w fun e w' => e = .returned (.bool (!xs.all ok32)) ∧ w = w' := by
  have hI := slices_IndexFunc v xs w hx hn
  obtain ⟨a, cap, rfl, c1, c2⟩ := hx.form
  clear hx
  cases hb : xs.all ok32
  · rw [hb] at hI
    replace hI := hid hI
    go_enter Tryz.func148, Tryz.ntmps148
    go_wp2_with (go_at_call 173; refine hI.out.mono ?_; rintro e w1 ⟨⟨r, rfl, hr⟩, rfl⟩; replace hr : 0 ≤ r := hr)
    go_ret
    exact ⟨rfl, rfl⟩
  · rw [hb] at hI
    replace hI := hid hI
    go_enter Tryz.func148, Tryz.ntmps148
    go_wp2_with (go_at_call 173; refine hI.out.mono ?_; rintro e w1 ⟨⟨r, rfl, hr⟩, rfl⟩; obtain rfl : r = -1 := hr)
    go_ret
    exact ⟨rfl, rfl⟩

theorem disk_Good (d : Dsk) (v : Value) (w : World) (hd : RDisk w v d) :
    Calls Tryz.prog 110 #[v] w fun e w' => e = .returned (.bool (goodD d)) ∧ Below w.heap.size w w' := by
  obtain ⟨vs, vw, rfl, hs, hw, n1, n2⟩ := hd
  obtain ⟨safe, writes⟩ := d
  dsimp only at *
  have hC := fun v w (hx : RL strC w v safe) => slices_ContainsFunc v safe w hx n1
  have hgi := goodD_iff ⟨safe, writes⟩
  dsimp only at hgi
  have hno : (¬ (safe.length = 37 ∧ writes.length ≤ 200 ∧ safe.all ok32 = true ∧ writes.all wrOk = true)) → goodD ⟨safe, writes⟩ = false := fun hh => by
    rw [← Bool.not_eq_true]; exact fun h2 => hh (hgi.1 h2)
  have hyes := hgi.2
  clear hgi
  generalize goodD ⟨safe, writes⟩ = g at *
  replace hno := hid hno
  replace hyes := hid hyes
  obtain ⟨a, cap, rfl, _⟩ := hs.form
  obtain ⟨b, bcap, rfl, _⟩ := hw.form
  replace hs := hid hs
  replace hw := hid hw
  have hC0 := fun (hb : safe.all ok32 = true) => hC
  by_cases h37 : safe.length ≠ 37
  · obtain rfl := hno.out (fun hh => h37 hh.1)
    have e1 : ((safe.length : Int) != 37) = true := bne_iff_ne.2 (by omega)
    clear hC hC0
    go_enter Tryz.func110, Tryz.ntmps110
    go_wp2
    go_ret
    exact ⟨rfl, by repeat (first | exact Below.refl _ _ | with_reducible assumption | (refine allocB ?_ (by first | omega | (simp; done) | (simp; omega)) _) | (refine Below.setCell ?_ (by first | omega | (simp; done) | (simp; omega)) _) | refine Below.drew ?_ | (refine Below.trans ?_ (Below.mono (by with_reducible assumption) (by first | omega | (simp; done) | (simp; omega)))))⟩
  replace h37 := Decidable.not_not.1 h37
  have e1 : ((safe.length : Int) != 37) = false := by rw [h37]; rfl
  by_cases h200 : ¬ writes.length ≤ 200
  · obtain rfl := hno.out (fun hh => h200 hh.2.1)
    clear hC hC0
    go_enter Tryz.func110, Tryz.ntmps110
    go_wp2
    go_ret
    exact ⟨rfl, by repeat (first | exact Below.refl _ _ | with_reducible assumption | (refine allocB ?_ (by first | omega | (simp; done) | (simp; omega)) _) | (refine Below.setCell ?_ (by first | omega | (simp; done) | (simp; omega)) _) | refine Below.drew ?_ | (refine Below.trans ?_ (Below.mono (by with_reducible assumption) (by first | omega | (simp; done) | (simp; omega)))))⟩
  replace h200 := Decidable.not_not.1 h200
  clear hC0
  replace hC := hid hC
  replace h37 := hid h37
  have kb : Blk (w.alloc (.cells #[.slice a safe.length cap, .slice b writes.length bcap] 46)) w.heap.size #[.slice a safe.length cap, .slice b writes.length bcap] 46 := Blk.new w _ _
  have nf : 0 < w.heap.size + 1 := by omega
  go_enter Tryz.func110, Tryz.ntmps110
  go_wp2
  go_loopw [4, 18] (fun _ i wr => ∃ k : Nat, k ≤ writes.length ∧ i = .int .i64 k ∧ Hid ((writes.take k).all wrOk = true) ∧ Blk wr w.heap.size #[.slice a safe.length cap, .slice b writes.length bcap] 46 ∧ Below w.heap.size w wr) (fun _ i _ => writes.length - (intOf i).toNat)
  case atStart => exact ⟨0, Nat.zero_le _, rfl, rfl, kb, by repeat (first | exact Below.refl _ _ | with_reducible assumption | (refine allocB ?_ (by first | omega | (simp; done) | (simp; omega)) _) | (refine Below.setCell ?_ (by first | omega | (simp; done) | (simp; omega)) _) | refine Below.drew ?_ | (refine Below.trans ?_ (Below.mono (by with_reducible assumption) (by first | omega | (simp; done) | (simp; omega)))))⟩
  case round =>
    obtain ⟨k, hk, rfl, hall, kb, hnx⟩ := hrel
    have lt0 := kb.lt
    by_cases hlt : k < writes.length
    · obtain ⟨b, off, rfl, d0, d1⟩ := RL.at2 (fun x => .int .i64 x.at_) (fun x => .string x.text) (fun _ => rfl) (hw.out.below hnx) hlt
      have lt1 := World.block_lt_of_cell? _ _ d0
      dsimp only at lt1
      have hA := fun w => disk_at writes[k].at_ w
      by_cases ha : isAt writes[k].at_ = true
      · rw [ha] at hA
        replace hA := hid hA
        by_cases ht : ok32 writes[k].text = true
        · have hst := hid (all_step hlt hall.out (by unfold wrOk; rw [ha, ht]; rfl))
          have e2 : ((writes[k].text.size : Int) != 32) = false := by rw [of_decide_eq_true ht]; rfl
          clear ha ht hall hno hyes
          generalize writes[k] = x at *
          go_wp2_with (go_at_call 111; refine (hA.out _).mono ?_; rintro e w1 ⟨rfl, rfl⟩)
          go_roundw
          case rel => exact ⟨k + 1, by omega, by go_num, hst, kb.alloc _, allocB hnx (by omega) _⟩
          case measure => simp [intOf]; omega
        · obtain rfl := hno.out (fun hh => by
            have := all_no hlt (p := wrOk) (by unfold wrOk; rw [ha, Bool.not_eq_true _ |>.mp ht]; rfl)
            rw [this] at hh; exact Bool.noConfusion hh.2.2.2)
          have e2 : ((writes[k].text.size : Int) != 32) = true := bne_iff_ne.2 (fun hh => ht (decide_eq_true (by omega)))
          clear ha ht hall hno hyes
          generalize writes[k] = x at *
          go_wp2_with (go_at_call 111; refine (hA.out _).mono ?_; rintro e w1 ⟨rfl, rfl⟩)
          go_ret
          exact ⟨rfl, allocB hnx (by omega) _⟩
      · obtain rfl := hno.out (fun hh => by
          have := all_no hlt (p := wrOk) (by unfold wrOk; rw [Bool.not_eq_true _ |>.mp ha]; rfl)
          rw [this] at hh; exact Bool.noConfusion hh.2.2.2)
        rw [Bool.not_eq_true _ |>.mp ha] at hA
        replace hA := hid hA
        clear ha hall hno hyes
        generalize writes[k] = x at *
        go_wp2_with (go_at_call 111; refine (hA.out _).mono ?_; rintro e w1 ⟨rfl, rfl⟩)
        go_ret
        exact ⟨rfl, allocB hnx (by omega) _⟩
    · have hf := hid (all_full hk hlt hall.out)
      have c0 := kb.cell 0
      simp only [List.getElem?_toArray, List.getElem?_cons_zero, List.getElem?_cons_succ] at c0
      clear hall
      cases hb : safe.all ok32
      · obtain rfl := hno.out (fun hh => by rw [hb] at hh; exact Bool.noConfusion hh.2.2.1)
        rw [hb] at hC
        clear hno hyes hb
        go_wp2_with (go_at_call 148; refine (hC.out _ _ (hs.out.below hnx)).mono ?_; rintro e w1 ⟨rfl, rfl⟩)
        go_ret
        exact ⟨rfl, hnx⟩
      · obtain rfl := hyes.out ⟨h37.out, h200, hb, hf.out⟩
        rw [hb] at hC
        clear hno hyes hb
        go_wp2_with (go_at_call 148; refine (hC.out _ _ (hs.out.below hnx)).mono ?_; rintro e w1 ⟨rfl, rfl⟩)
        go_ret
        exact ⟨rfl, hnx⟩
end Go.Proofs.YtjhmfljlclajnacGreatDoor
