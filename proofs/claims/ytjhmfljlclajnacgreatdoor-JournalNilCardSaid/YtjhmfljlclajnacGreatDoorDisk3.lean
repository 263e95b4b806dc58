/- The walks of the reference's after, ReadDisk. -/
import Derived.Test.YtjhmfljlclajnacGreatDoorDiskR
namespace Go.Proofs.YtjhmfljlclajnacGreatDoor
open Go.RowKit Wb
set_option linter.unusedVariables false
set_option linter.unusedSimpArgs false
set_option maxRecDepth 100000
set_option maxHeartbeats 4000000

theorem elemStr : Elem Tryz.prog 43 9 1 16 := Elem.mk' (z := .string ⟨#[]⟩) Tryz.underlying43 (by kernel_rfl) rfl
theorem elemWr : Elem Tryz.prog 44 95 2 24 := Elem.mk' (z := .agg #[.int .i64 0, .string ⟨#[]⟩]) Tryz.underlying44 (by kernel_rfl) rfl

theorem ref_after (d : Dsk) (m : Nat) (v : Value) (w : World) (hd : RDisk w v d) (hm : m < d.safe.length) (hmx : d.writes.length ≤ 200) :
    Calls Tryz.prog 97 #[v, .int .i64 m] w fun e w' => ∃ v', e = .returned v' ∧ Own strC w.heap.size 9 1 w' v' (afterL d.safe[m] m d.writes) ∧ Below w.heap.size w w' := by
  obtain ⟨vs, vw, rfl, hs, hw, n1, n2⟩ := hd
  obtain ⟨safe, writes⟩ := d
  dsimp only at *
  obtain ⟨a, cap, rfl, _⟩ := hs.form
  obtain ⟨b, bcap, rfl, _⟩ := hw.form
  obtain ⟨b2, off, rfl, d0⟩ := RL.at1 (fun x => .string x) (fun _ => rfl) hs hm
  have lt2 := World.block_lt_of_cell? _ _ d0
  dsimp only at lt2
  have hhit := fun (k : Nat) (hk : k < writes.length) => afterL_hit safe[m] m hk
  have hmiss := fun (k : Nat) (hk : k < writes.length) => afterL_miss safe[m] m hk
  have hnil := afterL_nil safe[m] m
  have hlen := fun (k : Nat) => afterL_len safe[m] m (writes.take k)
  replace hw := hid hw
  replace hhit := hid hhit
  replace hmiss := hid hmiss
  replace hnil := hid hnil
  replace hlen := hid hlen
  clear hs
  generalize safe[m] = sm at *
  have nf : 0 < w.heap.size + 1 := by omega
  go_enter Tryz.func97, Tryz.ntmps97
  go_wp2
  go_loopw [5, 7, 17] (fun l _ i wr => ∃ k : Nat, k ≤ writes.length ∧ i = .int .i64 k ∧ Own strC (w.heap.size + 1) 9 1 wr l (afterL sm m (writes.take k)) ∧ Below w.heap.size w wr ∧ w.heap.size + 1 ≤ wr.heap.size) (fun _ _ i _ => writes.length - (intOf i).toNat)
  case atStart =>
    refine ⟨0, Nat.zero_le _, rfl, ?_, by repeat (first | exact Below.refl _ _ | with_reducible assumption | (refine allocB ?_ (by first | omega | (simp; done) | (simp; omega)) _) | (refine Below.setCell ?_ (by first | omega | (simp; done) | (simp; omega)) _) | refine Below.drew ?_ | (refine Below.trans ?_ (Below.mono (by with_reducible assumption) (by first | omega | (simp; done) | (simp; omega))))), by simp⟩
    rw [List.take_zero, hnil.out]
    exact Own.lit (f := strC) strC_flat (w.heap.size + 1) 9 (w.alloc _) [sm] (by simp) (by show 1 ≤ maxLen; decide) rfl (by simp) rfl
  case round =>
    obtain ⟨k, hk, rfl, hown, hnx, hz⟩ := hrel
    by_cases hlt : k < writes.length
    · obtain ⟨b3, off3, rfl, d1, d2⟩ := RL.at2 (fun x => .int .i64 x.at_) (fun x => .string x.text) (fun _ => rfl) (hw.out.below hnx) hlt
      have lt1 := World.block_lt_of_cell? _ _ d1
      dsimp only at lt1
      by_cases heq : writes[k].at_ = m
      · have hh := hhit.out k hlt heq
        have hl := hlen.out k
        rw [List.length_take] at hl
        have e1 : (writes[k].at_ == (m : Int)) = true := beq_iff_eq.2 heq
        replace hh := hid hh
        clear heq
        generalize writes[k] = x at *
        generalize afterL sm m (writes.take k) = ls at *
        go_wp2_with (at_builtin; go_loud (refine wpList_push rfl _ _ _ rfl (w.heap.size + 1) _ 1 16 strC_flat elemStr (hown.alloc _) rfl x.text rfl rfl ?c1 ?c2 ?c3 ?c4))
        all_goals try (case c1 => omega)
        all_goals try (case c2 => unfold maxLen; omega)
        all_goals try (case c3 => simp; omega)
        case c4 =>
          intro v7 w7 hown7 hbel7 _
          rw [← hh.out] at hown7
          have hz7 := hbel7.size
          go_wp2
          go_roundw
          case rel => exact ⟨k + 1, by omega, by go_num, hown7, (allocB hnx (by omega) _).trans (hbel7.mono (by omega)), by simp at hz7; omega⟩
          case measure => simp [intOf]; omega
      · have hh := hmiss.out k hlt heq
        have e1 : (writes[k].at_ == (m : Int)) = false := beq_eq_false_iff_ne.2 heq
        replace hh := hid hh
        clear heq
        generalize writes[k] = x at *
        go_wp2
        go_roundw
        case rel => exact ⟨k + 1, by omega, by go_num, by rw [hh.out]; exact hown.alloc _, allocB hnx (by omega) _, by simp; omega⟩
        case measure => simp [intOf]; omega
    · rw [List.take_of_length_le (by omega)] at hown
      go_wp2
      go_ret
      exact ⟨_, rfl, hown.mono (by omega), hnx⟩

theorem ref_ReadDisk (d : Dsk) (n : Int) (v : Value) (w : World) (hd : RDisk w v d) :
    Calls Tryz.prog 58 #[v, .int .i64 n] w fun e w' => e = .returned (.tuple #[.string (readD d n), .int .i64 (readE d n)]) ∧ Below w.heap.size w w' := by
  have hG := fun w (hh : RDisk w v d) => ref_GoodDisk d v w hh
  have hA := fun w => ref_isAt n w
  have hd2 := hd
  obtain ⟨vs, vw, rfl, hs, hw, n1, n2⟩ := hd
  obtain ⟨a, cap, rfl, _⟩ := hs.form
  obtain ⟨b, bcap, rfl, _⟩ := hw.form
  replace hd2 := hid hd2
  by_cases hg : goodD d = true
  · rw [hg] at hG
    by_cases ha : isAt n = true
    · rw [ha] at hA
      have hr : readD d n = lastT (safeAt d n) n d.writes := by unfold readD; rw [if_pos ⟨hg, ha⟩]
      have he : readE d n = 0 := by unfold readE; rw [if_pos ⟨hg, ha⟩]
      rw [he]
      obtain ⟨g1, g2, _, _⟩ := (goodD_iff d).1 hg
      obtain ⟨h0, h1⟩ : 0 ≤ n ∧ n < 37 := of_decide_eq_true ha
      obtain ⟨m, rfl⟩ : ∃ m : Nat, n = m := ⟨n.toNat, by omega⟩
      have hm : m < d.safe.length := by omega
      have hsf : safeAt d m = d.safe[m] := by simp [safeAt, hm]
      rw [hsf] at hr
      have hF := fun v w (hh : RDisk w v d) => ref_after d m v w hh hm g2
      have hla := after_last d.safe[m] m d.writes
      have hll := afterL_len d.safe[m] m d.writes
      rw [← hr] at hla
      clear hg ha he hsf hr hs hw g1
      generalize readD d m = r at *
      generalize afterL d.safe[m] m d.writes = ls at *
      obtain ⟨hl0, hl1⟩ : 0 < ls.length ∧ ls[ls.length - 1]? = some r := by
        rw [List.getLast?_eq_getElem?] at hla
        exact ⟨by have := (List.getElem?_eq_some_iff.1 hla).1; omega, hla⟩
      obtain ⟨safe, writes⟩ := d
      dsimp only at *
      replace hG := hid hG
      replace hA := hid hA
      replace hF := hid hF
      obtain ⟨q, hq⟩ : ∃ q, ls.length = q + 1 := ⟨ls.length - 1, by omega⟩
      have hql : q < ls.length := by omega
      have hqv : ls[q] = r := by
        rw [show ls.length - 1 = q by omega, List.getElem?_eq_getElem hql] at hl1
        exact Option.some.inj hl1
      replace hqv := hid hqv
      clear hla hm hl1 hl0
      go_enter Tryz.func58, Tryz.ntmps58
      go_wp2_with (first
        | (go_at_call 96; refine (hG.out _ (hd2.out.below (by repeat (first | exact Below.refl _ _ | with_reducible assumption | (refine allocB ?_ (by first | omega | (simp; done) | (simp; omega)) _) | (refine Below.setCell ?_ (by first | omega | (simp; done) | (simp; omega)) _) | refine Below.drew ?_ | (refine Below.trans ?_ (Below.mono (by with_reducible assumption) (by first | omega | (simp; done) | (simp; omega)))))))).mono ?_; rintro e w1 ⟨rfl, hb1⟩; obtain ⟨hbc, hbf⟩ := bcell hb1; have hbz := hb1.size; try simp only [World.size_alloc, World.size_setCell, World.size_drew] at hbz; have hz0 := Nat.lt_of_lt_of_le (n := w.heap.size) (by omega) hbz)
        | (go_at_call 105; refine (hA.out _).mono ?_; rintro e w2 ⟨rfl, rfl⟩)
        | (go_at_call 97; go_loud (refine (hF.out _ _ (hd2.out.below (by repeat (first | exact Below.refl _ _ | with_reducible assumption | (refine allocB ?_ (by first | omega | (simp; done) | (simp; omega)) _) | (refine Below.setCell ?_ (by first | omega | (simp; done) | (simp; omega)) _) | refine Below.drew ?_ | (refine Below.trans ?_ (Below.mono (by with_reducible assumption) (by first | omega | (simp; done) | (simp; omega)))))))).mono ?_; rintro e w3 ⟨v3, rfl, hown, hb3⟩; obtain ⟨a3, cap3, rfl⟩ := hown.form; obtain ⟨b3, off3, rfl, d3⟩ := RL.at1 (fun x => .string x) (fun _ => rfl) hown.reads hql; rw [hqv.out] at d3; rw [hq])))
      go_ret2
      exact ⟨rfl, by repeat (first | exact Below.refl _ _ | with_reducible assumption | (refine allocB ?_ (by first | omega | (simp; done) | (simp; omega)) _) | (refine Below.setCell ?_ (by first | omega | (simp; done) | (simp; omega)) _) | refine Below.drew ?_ | (refine Below.trans ?_ (Below.mono (by with_reducible assumption) (by first | omega | (simp; done) | (simp; omega)))))⟩
    · have hr : readD d n = ⟨#[]⟩ := by unfold readD; rw [if_neg (fun hh => ha hh.2)]
      have he : readE d n = 2 := by unfold readE; rw [if_neg (fun hh => ha hh.2)]
      rw [hr, he]
      rw [Bool.not_eq_true _ |>.mp ha] at hA
      clear hs hw ha hg hr he
      replace hG := hid hG
      replace hA := hid hA
      go_enter Tryz.func58, Tryz.ntmps58
      go_wp2_with (first
        | (go_at_call 96; refine (hG.out _ (hd2.out.below (by repeat (first | exact Below.refl _ _ | with_reducible assumption | (refine allocB ?_ (by first | omega | (simp; done) | (simp; omega)) _) | (refine Below.setCell ?_ (by first | omega | (simp; done) | (simp; omega)) _) | refine Below.drew ?_ | (refine Below.trans ?_ (Below.mono (by with_reducible assumption) (by first | omega | (simp; done) | (simp; omega)))))))).mono ?_; rintro e w1 ⟨rfl, hb1⟩; obtain ⟨hbc, hbf⟩ := bcell hb1; have hbz := hb1.size; try simp only [World.size_alloc, World.size_setCell, World.size_drew] at hbz; have hz0 := Nat.lt_of_lt_of_le (n := w.heap.size) (by omega) hbz)
        | (go_at_call 105; refine (hA.out _).mono ?_; rintro e w2 ⟨rfl, rfl⟩))
      go_ret2
      exact ⟨rfl, by repeat (first | exact Below.refl _ _ | with_reducible assumption | (refine allocB ?_ (by first | omega | (simp; done) | (simp; omega)) _) | (refine Below.setCell ?_ (by first | omega | (simp; done) | (simp; omega)) _) | refine Below.drew ?_ | (refine Below.trans ?_ (Below.mono (by with_reducible assumption) (by first | omega | (simp; done) | (simp; omega)))))⟩
  · have hr : readD d n = ⟨#[]⟩ := by unfold readD; rw [if_neg (fun hh => hg hh.1)]
    have he : readE d n = 2 := by unfold readE; rw [if_neg (fun hh => hg hh.1)]
    rw [hr, he]
    rw [Bool.not_eq_true _ |>.mp hg] at hG
    clear hs hw hg hr he
    replace hG := hid hG
    go_enter Tryz.func58, Tryz.ntmps58
    go_wp2_with (go_at_call 96; refine (hG.out _ (hd2.out.below (by repeat (first | exact Below.refl _ _ | with_reducible assumption | (refine allocB ?_ (by first | omega | (simp; done) | (simp; omega)) _) | (refine Below.setCell ?_ (by first | omega | (simp; done) | (simp; omega)) _) | refine Below.drew ?_ | (refine Below.trans ?_ (Below.mono (by with_reducible assumption) (by first | omega | (simp; done) | (simp; omega)))))))).mono ?_; rintro e w1 ⟨rfl, hb1⟩; obtain ⟨hbc, hbf⟩ := bcell hb1; have hbz := hb1.size; try simp only [World.size_alloc, World.size_setCell, World.size_drew] at hbz; have hz0 := Nat.lt_of_lt_of_le (n := w.heap.size) (by omega) hbz)
    go_ret2
    exact ⟨rfl, by repeat (first | exact Below.refl _ _ | with_reducible assumption | (refine allocB ?_ (by first | omega | (simp; done) | (simp; omega)) _) | (refine Below.setCell ?_ (by first | omega | (simp; done) | (simp; omega)) _) | refine Below.drew ?_ | (refine Below.trans ?_ (Below.mono (by with_reducible assumption) (by first | omega | (simp; done) | (simp; omega)))))⟩
end Go.Proofs.YtjhmfljlclajnacGreatDoor
