/- The walk of the law DiskWrites. -/
import Derived.Test.YtjhmfljlclajnaaTurns
namespace Go.Proofs.Ytjhmfljlclajnaa
open Go.RowKit Wb
set_option linter.unusedVariables false
set_option linter.unusedSimpArgs false
set_option maxRecDepth 100000
set_option maxHeartbeats 1000000

theorem law_DiskWrites_bad (d : Dsk) (n m : Int) (s : ByteArray) (v : Value) (w : World) (hd : RDisk w v d) (hp : putE d n s ≠ 0) :
    Calls Try.prog 9 #[v, .int .i64 n, .int .i64 m, .string s] w fun e w' => e = .returned (.bool true) ∧ Below w.heap.size w w' := by
  have hP := fun w (h : RDisk w v d) => disk_Put d n s v w h
  have hT := fun w => keep_turns w
  have hS := fun v1 v2 w h1 h2 => keep_sameDisk d v1 v2 w h1 h2
  rw [putD_same hp] at hP
  have hne : ((putE d n s) != 0) = true := bne_iff_ne.2 hp
  generalize putE d n s = e0 at *
  have hd2 := hid hd
  obtain ⟨vs, vw, rfl, hs, hw, n1, n2⟩ := hd
  obtain ⟨a, cap, rfl, _⟩ := hs.form
  obtain ⟨b, bcap, rfl, _⟩ := hw.form
  clear hs hw hp
  replace hP := hid hP
  replace hT := hid hT
  replace hS := hid hS
  go_enter Try.func9, Try.ntmps9
  go_wp2_with (first
    | (go_at_call 39; go_loud (refine (hP.out _ (hd2.out.below (by repeat (first | exact Below.refl _ _ | with_reducible assumption | (refine allocB ?_ (by first | omega | (simp; done) | (simp; omega)) _) | (refine Below.setCell ?_ (by first | omega | (simp; done) | (simp; omega)) _) | refine Below.drew ?_ | (refine Below.trans ?_ (Below.mono (by with_reducible assumption) (by first | omega | (simp; done) | (simp; omega)))))))).mono ?_; rintro e w1 ⟨v1, rfl, hr1, hb1⟩; have hr1' := hid hr1; obtain ⟨vs1, vw1, rfl, hs1, hw1, n11, n21⟩ := hr1; obtain ⟨as1, cs1, rfl, _⟩ := hs1.form; obtain ⟨aw1, cw1, rfl, _⟩ := hw1.form; have k0 : Blk w1 w.heap.size #[.slice a d.safe.length cap, .slice b d.writes.length bcap] 56 := (Blk.new w _ _).step hb1; have lt0 := k0.lt; have c0 := k0.cell 0; have c1 := k0.cell 1; simp only [List.getElem?_toArray, List.getElem?_cons_zero, List.getElem?_cons_succ] at c0 c1; have hnx : Below w.heap.size w w1 := (by repeat (first | exact Below.refl _ _ | with_reducible assumption | (refine allocB ?_ (by first | omega | (simp; done) | (simp; omega)) _) | (refine Below.setCell ?_ (by first | omega | (simp; done) | (simp; omega)) _) | refine Below.drew ?_ | (refine Below.trans ?_ (Below.mono (by with_reducible assumption) (by first | omega | (simp; done) | (simp; omega))))))))
    | (go_at_call 40; go_loud (refine (hT.out _).mono ?_; rintro e w9 ⟨rfl, hb9⟩))
    | (go_at_call 41; go_loud (refine (hS.out _ _ _ (hr1'.out.below (by repeat (first | exact Below.refl _ _ | with_reducible assumption | (refine allocB ?_ (by first | omega | (simp; done) | (simp; omega)) _) | (refine Below.setCell ?_ (by first | omega | (simp; done) | (simp; omega)) _) | refine Below.drew ?_ | (refine Below.trans ?_ (Below.mono (by with_reducible assumption) (by first | omega | (simp; done) | (simp; omega))))))) (hd2.out.below (by repeat (first | exact Below.refl _ _ | with_reducible assumption | (refine allocB ?_ (by first | omega | (simp; done) | (simp; omega)) _) | (refine Below.setCell ?_ (by first | omega | (simp; done) | (simp; omega)) _) | refine Below.drew ?_ | (refine Below.trans ?_ (Below.mono (by with_reducible assumption) (by first | omega | (simp; done) | (simp; omega)))))))).mono ?_; rintro e w3 ⟨rfl, hb3⟩)))
  have z3 := hb3.size
  simp at z3
  go_ret
  exact ⟨rfl, by repeat (first | exact Below.refl _ _ | with_reducible assumption | (refine allocB ?_ (by first | omega | (simp; done) | (simp; omega)) _) | (refine Below.setCell ?_ (by first | omega | (simp; done) | (simp; omega)) _) | refine Below.drew ?_ | (refine Below.trans ?_ (Below.mono (by with_reducible assumption) (by first | omega | (simp; done) | (simp; omega)))))⟩

theorem law_DiskWrites_good (d : Dsk) (n m : Int) (s : ByteArray) (v : Value) (w : World) (hd : RDisk w v d) (hp : putE d n s = 0) :
    Calls Try.prog 9 #[v, .int .i64 n, .int .i64 m, .string s] w fun e w' => e = .returned (.bool true) ∧ Below w.heap.size w w' := by
  have hP := fun w (h : RDisk w v d) => disk_Put d n s v w h
  have hT := fun w => keep_turns w
  have hRx := fun k v w (h : RDisk w v (putD d n s)) => disk_Read (putD d n s) k v w h
  have hRd := fun v w (h : RDisk w v d) => disk_Read d m v w h
  have hG := fun v w (h : RDisk w v (putD d n s)) => disk_Good (putD d n s) v w h
  rw [put_good hp] at hG
  rw [hp] at hP
  have hrn := put_read hp
  have hen : readE (putD d n s) n = 0 := by rw [put_readE hp]; obtain ⟨hg, ha, _⟩ := putE_zero hp; unfold readE; rw [if_pos ⟨hg, ha⟩]
  have hem : readE (putD d n s) m = readE d m := put_readE hp m
  have hrm : m = n ∨ readD (putD d n s) m = readD d m := by
    by_cases hh : m = n
    · exact .inl hh
    · exact .inr (put_other hp hh)
  generalize readD (putD d n s) = rx at *
  generalize readE (putD d n s) = ex at *
  generalize putD d n s = x at *
  generalize readD d m = rd at *
  generalize readE d m = ed at *
  clear hp
  have hd2 := hid hd
  obtain ⟨vs, vw, rfl, hs, hw, n1, n2⟩ := hd
  obtain ⟨a, cap, rfl, _⟩ := hs.form
  obtain ⟨b, bcap, rfl, _⟩ := hw.form
  clear hs hw
  replace hP := hid hP
  replace hT := hid hT
  replace hG := hid hG
  replace hRx := hid hRx
  replace hRd := hid hRd
  have key : ∀ (cm : Bool), ((m == n) = cm) → (cm = false → rx m = rd) → Calls Try.prog 9 #[.agg #[.slice a d.safe.length cap, .slice b d.writes.length bcap], .int .i64 n, .int .i64 m, .string s] w fun e w' => e = .returned (.bool true) ∧ Below w.heap.size w w' := by
    intro cm hcm hcr
    clear hrm
    cases cm
    all_goals
      try have hcr := hcr rfl
      go_enter Try.func9, Try.ntmps9
      go_wp2_with (first
        | (go_at_call 39; go_loud (refine (hP.out _ (hd2.out.below (by repeat (first | exact Below.refl _ _ | with_reducible assumption | (refine allocB ?_ (by first | omega | (simp; done) | (simp; omega)) _) | (refine Below.setCell ?_ (by first | omega | (simp; done) | (simp; omega)) _) | refine Below.drew ?_ | (refine Below.trans ?_ (Below.mono (by with_reducible assumption) (by first | omega | (simp; done) | (simp; omega)))))))).mono ?_; rintro e w1 ⟨v1, rfl, hr1, hb1⟩; have hr1' := hid hr1; obtain ⟨vs1, vw1, rfl, hs1, hw1, n11, n21⟩ := hr1; obtain ⟨as1, cs1, rfl, _⟩ := hs1.form; obtain ⟨aw1, cw1, rfl, _⟩ := hw1.form; have k0 : Blk w1 w.heap.size #[.slice a d.safe.length cap, .slice b d.writes.length bcap] 56 := (Blk.new w _ _).step hb1; have lt0 := k0.lt; have c0 := k0.cell 0; have c1 := k0.cell 1; simp only [List.getElem?_toArray, List.getElem?_cons_zero, List.getElem?_cons_succ] at c0 c1; have hnx : Below w.heap.size w w1 := (by repeat (first | exact Below.refl _ _ | with_reducible assumption | (refine allocB ?_ (by first | omega | (simp; done) | (simp; omega)) _) | (refine Below.setCell ?_ (by first | omega | (simp; done) | (simp; omega)) _) | refine Below.drew ?_ | (refine Below.trans ?_ (Below.mono (by with_reducible assumption) (by first | omega | (simp; done) | (simp; omega)))))); clear hs1 hw1 hb1))
        | (go_at_call 40; go_loud (refine (hT.out _).mono ?_; rintro e w2 ⟨rfl, hb2⟩; have k2 : Blk w2 w.heap.size #[.slice a d.safe.length cap, .slice b d.writes.length bcap] 56 := (k0.alloc _).step hb2; have k3 : Blk w2 w1.heap.size #[.slice as1 x.safe.length cs1, .slice aw1 x.writes.length cw1] 56 := (Blk.new w1 _ _).step hb2; have d0 := k2.cell 0; have d1 := k2.cell 1; have d2 := k3.cell 0; have d3 := k3.cell 1; simp only [List.getElem?_toArray, List.getElem?_cons_zero, List.getElem?_cons_succ] at d0 d1 d2 d3; have hnx2 : Below w.heap.size w w2 := (by repeat (first | exact Below.refl _ _ | with_reducible assumption | (refine allocB ?_ (by first | omega | (simp; done) | (simp; omega)) _) | (refine Below.setCell ?_ (by first | omega | (simp; done) | (simp; omega)) _) | refine Below.drew ?_ | (refine Below.trans ?_ (Below.mono (by with_reducible assumption) (by first | omega | (simp; done) | (simp; omega)))))); have hr2 : Hid (RDisk w2 (.agg #[.slice as1 x.safe.length cs1, .slice aw1 x.writes.length cw1]) x) := hid (hr1'.out.below ((allocB (Below.refl _ w1) (Nat.le_refl _) _).trans (hb2.mono (by simp)))); clear hb2))
        | (go_at_call_of 42 (Value.int IntKind.i64 n); go_loud (refine (hRx.out n _ _ hr2.out).mono ?_; rintro e w3 ⟨rfl, hb3⟩; have k2 := k2.step hb3; have k3 := k3.step hb3; have d0 := k2.cell 0; have d1 := k2.cell 1; have d2 := k3.cell 0; have d3 := k3.cell 1; simp only [List.getElem?_toArray, List.getElem?_cons_zero, List.getElem?_cons_succ] at d0 d1 d2 d3; have hnx3 := bgo hnx2 hb3; have hr3 := hid (hr2.out.below hb3); clear hb3))
        | (go_at_call_of 42 (Value.slice aw1 x.writes.length cw1); go_loud (refine (hRx.out m _ _ hr3.out).mono ?_; rintro e w4 ⟨rfl, hb4⟩; have k2 := k2.step hb4; have k3 := k3.step hb4; have d0 := k2.cell 0; have d1 := k2.cell 1; have d2 := k3.cell 0; have d3 := k3.cell 1; simp only [List.getElem?_toArray, List.getElem?_cons_zero, List.getElem?_cons_succ] at d0 d1 d2 d3; have hnx4 := bgo hnx3 hb4; have hr4 := hid (hr3.out.below hb4); clear hb4))
        | (go_at_call_of 42 (Value.slice b d.writes.length bcap); go_loud (refine (hRd.out _ _ (hd2.out.below hnx4)).mono ?_; rintro e w5 ⟨rfl, hb5⟩; have k3 := k3.step hb5; have d2 := k3.cell 0; have d3 := k3.cell 1; simp only [List.getElem?_toArray, List.getElem?_cons_zero, List.getElem?_cons_succ] at d2 d3; have hnx5 := bgo hnx4 hb5; have hr5 := hid (hr4.out.below hb5); clear hb5))
        | (go_at_call 43; go_loud (refine (hG.out _ _ hr5.out).mono ?_; rintro e w6 ⟨rfl, hb6⟩; have hnx6 := bgo hnx5 hb6)))
      go_ret
      exact ⟨rfl, hnx6⟩
  rcases hrm with h | h
  · exact key true (by rw [h]; exact beq_self_eq_true n) (fun hh => by cases hh)
  · by_cases hmn : m = n
    · exact key true (by rw [hmn]; exact beq_self_eq_true n) (fun hh => by cases hh)
    · exact key false (beq_eq_false_iff_ne.2 hmn) (fun _ => h)

theorem law_DiskWrites (d : Dsk) (n m : Int) (s : ByteArray) (v : Value) (w : World) (hd : RDisk w v d) :
    Calls Try.prog 9 #[v, .int .i64 n, .int .i64 m, .string s] w fun e w' => e = .returned (.bool true) ∧ Below w.heap.size w w' := by
  by_cases hp : putE d n s = 0
  · exact law_DiskWrites_good d n m s v w hd hp
  · exact law_DiskWrites_bad d n m s v w hd hp
end Go.Proofs.Ytjhmfljlclajnaa
