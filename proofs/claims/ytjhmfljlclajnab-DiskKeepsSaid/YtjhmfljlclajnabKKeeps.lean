/- The walk of the law DiskKeeps. -/
import Derived.Test.YtjhmfljlclajnabCrash
import Derived.Test.YtjhmfljlclajnabDisk9
import Derived.Test.YtjhmfljlclajnabDisk2
import Derived.Test.YtjhmfljlclajnabDisk6
import Derived.Test.YtjhmfljlclajnabTurns
namespace Wb
open Go Go.RowKit
/-- Is a text the safe one, or one of the writes'? -/
def oneB (t s : ByteArray) (n : Int) (ws : List Wr) : Bool := (t.toList == s.toList) || ws.any (fun x => x.at_ == n && (x.text.toList == t.toList))
theorem oneB_nil (t s : ByteArray) (n : Int) : oneB t s n [] = (t.toList == s.toList) := by simp [oneB]
theorem oneB_step (t s : ByteArray) (n : Int) {ws : List Wr} {j : Nat} (hj : j < ws.length) : oneB t s n (ws.take (j + 1)) = (oneB t s n (ws.take j) || (ws[j].at_ == n && (ws[j].text.toList == t.toList))) := by
  unfold oneB
  rw [List.take_succ_eq_append_getElem hj, List.any_append, Bool.or_assoc]
  simp
theorem oneB_mem {t s : ByteArray} {n : Int} {ws : List Wr} (h : t ∈ afterL s n ws) : oneB t s n ws = true := by
  unfold oneB
  rw [Bool.or_eq_true]
  rcases List.mem_cons.1 h with rfl | h
  · exact .inl (by simp)
  · obtain ⟨x, hx, rfl⟩ := List.mem_map.1 h
    obtain ⟨h1, h2⟩ := List.mem_filter.1 hx
    refine .inr (List.any_eq_true.2 ⟨x, h1, ?_⟩)
    rw [of_decide_eq_true h2]
    simp
theorem readD_flat {s : List ByteArray} (hg : goodD ⟨s, []⟩ = true) {n : Nat} (hn : n < s.length) : readD ⟨s, []⟩ n = s[n] := by
  have h37 := ((goodD_iff _).1 hg).1
  dsimp only at h37
  unfold readD
  rw [if_pos ⟨hg, decide_eq_true ⟨by omega, by omega⟩⟩]
  simp [lastT, safeAt, hn]
theorem flush_good {d : Dsk} (hg : goodD d = true) : goodD ⟨flushL d.safe d.writes, []⟩ = true := by
  obtain ⟨g1, g2, g3, g4⟩ := (goodD_iff d).1 hg
  refine (goodD_iff _).2 ⟨by dsimp only; rw [flushL_len]; exact g1, by simp, ?_, rfl⟩
  dsimp only
  rw [List.all_eq_true]
  intro t ht
  obtain ⟨n, hn⟩ := List.mem_iff_getElem?.1 ht
  have hlt := (List.getElem?_eq_some_iff.1 hn).1
  rw [flushL_len] at hlt
  rw [flushL_get d.safe d.writes g4 n hlt] at hn
  cases hn
  have hm : lastT d.safe[n] n d.writes ∈ textsAt d n := by
    rw [textsAt_eq d hlt]
    have := after_last d.safe[n] n d.writes
    exact List.mem_of_getLast? this
  exact texts_ok hg hlt _ hm
theorem read_flush {d : Dsk} (hg : goodD d = true) {n : Nat} (hn : n < 37) : readD ⟨flushL d.safe d.writes, []⟩ n = readD d n := by
  obtain ⟨g1, g2, g3, g4⟩ := (goodD_iff d).1 hg
  have hn' : n < d.safe.length := by omega
  rw [readD_flat (flush_good hg) (by rw [flushL_len]; exact hn')]
  have := flushL_get d.safe d.writes g4 n hn'
  rw [List.getElem?_eq_getElem (by rw [flushL_len]; exact hn')] at this
  simp only [Option.some.injEq] at this
  rw [this]
  unfold readD
  rw [if_pos ⟨hg, decide_eq_true ⟨by omega, by omega⟩⟩]
  simp [safeAt, hn']
theorem crash_flat {s : List ByteArray} (x : Nat) : crashL ⟨s, []⟩ x s.length = s := by
  refine List.ext_getElem (by simp [crashL]) fun n h1 h2 => ?_
  have e : textsAt ⟨s, []⟩ n = [s[n]] := by rw [textsAt_eq _ (by exact h2)]; rfl
  simp only [crashL, List.getElem_map, List.getElem_range, crashAt, e]
  simp [Nat.mod_one]
theorem read_crash {d : Dsk} (hg : goodD d = true) (x : Nat) {n : Nat} (hn : n < 37) : readD ⟨crashL d x d.safe.length, []⟩ n = crashAt d x n := by
  have h := crash_good (d := d) (draw := x) (by unfold crashE; rw [if_pos ⟨hg, by omega⟩])
  unfold crashD at h
  rw [if_pos ⟨hg, by omega⟩] at h
  simp only [Int.toNat_natCast] at h
  have g1 := ((goodD_iff d).1 hg).1
  rw [readD_flat h (by rw [crashL_len]; omega)]
  simp [crashL]
end Wb
namespace Go.Proofs.Ytjhmfljlclajnab
open Go.RowKit Wb
set_option linter.unusedVariables false
set_option linter.unusedSimpArgs false
set_option maxRecDepth 100000
set_option maxHeartbeats 4000000

theorem law_DiskKeeps_bad (d : Dsk) (n : Int) (v : Value) (w : World) (hd : RDisk w v d) (hn : n ≤ 9223372036854775807) (h : ¬ (goodD d = true ∧ 0 ≤ n)) :
    Calls Try.prog 5 #[v, .int .i64 n] w fun e w' => e = .returned (.bool true) ∧ Below w.heap.size w w' := by
  have hP := fun v w (h : RDisk w v d) => disk_Crash d n v w h hn
  have hF := fun v w (h : RDisk w v d) => disk_Flush d v w h
  have hG := fun v w (h : RDisk w v d) => disk_Good d v w h
  have hT := fun w => keep_turns w
  have he : crashE d n = 2 := by unfold crashE; rw [if_neg h]
  rw [he] at hP
  have hgf : (goodD d == (flushE d == 0)) = true := by
    unfold flushE
    by_cases hg : goodD d = true
    · rw [hg]; rfl
    · rw [Bool.not_eq_true] at hg; rw [hg]; rfl
  generalize crashD d n = pd at *
  generalize flushD d = fd at *
  generalize flushE d = fe at *
  generalize goodD d = gd at *
  have hd2 := hid hd
  obtain ⟨vs, vw, rfl, hs, hw, n1, n2⟩ := hd
  obtain ⟨a, cap, rfl, _⟩ := hs.form
  obtain ⟨b, bcap, rfl, _⟩ := hw.form
  clear hs hw hn h he
  replace hP := hid hP; replace hF := hid hF; replace hG := hid hG; replace hT := hid hT
  have k0 := Blk.new w #[.slice a d.safe.length cap, .slice b d.writes.length bcap] 25
  go_enter Try.func5, Try.ntmps5
  go_wp2_with (first
    | (go_at_call 10; go_loud (refine (hP.out _ _ (hd2.out.below (bal (b0 w) _))).mono ?_; rintro e w1 ⟨v1, rfl, h1, hb1⟩; obtain ⟨vs1, vw1, rfl, hs1, hw1, _⟩ := h1; obtain ⟨a1, c1, rfl, _⟩ := hs1.form; obtain ⟨b1, e1, rfl, _⟩ := hw1.form; (try clear k0_0); (try clear k0_1); replace k0 := (by with_reducible (first | exact Blk.step k0 hb1 | exact Blk.step (Blk.alloc k0 _) hb1 | exact Blk.step (Blk.alloc (Blk.alloc k0 _) _) hb1)); have k0_0 := k0.cell 0; have k0_1 := k0.cell 1; simp only [List.getElem?_toArray, List.getElem?_cons_zero, List.getElem?_cons_succ] at k0_0 k0_1; have nx1 := bgo (bal (b0 w) _) hb1; have l0 := k0.lt; clear hb1 hs1 hw1))
    | (go_at_call 18; go_loud (refine (hF.out _ _ (hd2.out.below (bal nx1 _))).mono ?_; rintro e w2 ⟨v2, rfl, h2, hb2⟩; obtain ⟨vs2, vw2, rfl, hs2, hw2, _⟩ := h2; obtain ⟨a2, c2, rfl, _⟩ := hs2.form; obtain ⟨b2, e2, rfl, _⟩ := hw2.form; (try clear k0_0); (try clear k0_1); replace k0 := (by with_reducible (first | exact Blk.step k0 hb2 | exact Blk.step (Blk.alloc k0 _) hb2 | exact Blk.step (Blk.alloc (Blk.alloc k0 _) _) hb2)); have k0_0 := k0.cell 0; have k0_1 := k0.cell 1; simp only [List.getElem?_toArray, List.getElem?_cons_zero, List.getElem?_cons_succ] at k0_0 k0_1; have nx2 := bgo (bal nx1 _) hb2; have l0 := k0.lt; clear hb2 hs2 hw2))
    | (go_at_call 20; go_loud (refine (hG.out _ _ (hd2.out.below (bal nx2 _))).mono ?_; rintro e w3 ⟨rfl, hb3⟩; have nx3 := bgo (bal nx2 _) hb3))
    | (go_at_call 19; go_loud (refine (hT.out _).mono ?_; rintro e w4 ⟨rfl, hb4⟩; have nx4 := bgo nx3 hb4)))
  go_ret
  exact ⟨rfl, nx4⟩

theorem law_DiskKeeps_good (d : Dsk) (x : Nat) (v : Value) (w : World) (hd : RDisk w v d) (hx : x ≤ 9223372036854775807) (hg : goodD d = true) :
    Calls Try.prog 5 #[v, .int .i64 (x : Int)] w fun e w' => e = .returned (.bool true) ∧ Below w.heap.size w w' := by
  have hP := fun v w (h : RDisk w v d) => disk_Crash_good d x v w h hg hx
  have hF := fun v w (h : RDisk w v d) => disk_Flush d v w h
  have he : flushE d = 0 := by unfold flushE; rw [if_pos hg]
  have hv : flushD d = ⟨flushL d.safe d.writes, []⟩ := by unfold flushD; rw [if_pos hg]
  rw [he, hv] at hF
  have hP2 := fun v w (h : RDisk w v ⟨flushL d.safe d.writes, []⟩) => disk_Crash_good ⟨flushL d.safe d.writes, []⟩ x v w h (flush_good hg) hx
  rw [show crashL ⟨flushL d.safe d.writes, []⟩ x (Dsk.safe ⟨flushL d.safe d.writes, []⟩).length = flushL d.safe d.writes from crash_flat x] at hP2
  have hS := fun v1 v2 w h1 h2 => keep_sameDisk ⟨flushL d.safe d.writes, []⟩ v1 v2 w h1 h2
  have hR := fun k (hk : k < 37) v w (h : RDisk w v d) => disk_Read d (k : Nat) v w h
  have hRc : ∀ (k : Nat) (hk : k < 37) v w (h : RDisk w v ⟨crashL d x d.safe.length, []⟩), Calls Try.prog 21 #[v, .int .i64 (k : Int)] w fun e w' => e = .returned (.tuple #[.string (crashAt d x k), .int .i64 (readE ⟨crashL d x d.safe.length, []⟩ k)]) ∧ Below w.heap.size w w' := fun k hk v w h => by
    rw [← read_crash hg x hk]; exact disk_Read _ _ v w h
  have hRf : ∀ (k : Nat) (hk : k < 37) v w (h : RDisk w v ⟨flushL d.safe d.writes, []⟩), Calls Try.prog 21 #[v, .int .i64 (k : Int)] w fun e w' => e = .returned (.tuple #[.string (readD d k), .int .i64 (readE ⟨flushL d.safe d.writes, []⟩ k)]) ∧ Below w.heap.size w w' := fun k hk v w h => by
    rw [← read_flush hg hk]; exact disk_Read _ _ v w h
  have hT := fun w => keep_turns w
  have g1 := ((goodD_iff d).1 hg).1
  have g2 := ((goodD_iff d).1 hg).2.1
  have hone : ∀ k (hk : k < d.safe.length), oneB (crashAt d x k) d.safe[k] k d.writes = true := fun k hk => oneB_mem (by have := crashAt_mem d x k; rwa [textsAt_eq d hk] at this)
  have hnil := fun t s n => oneB_nil t s n
  have hstp := fun t s n j (hj : j < d.writes.length) => oneB_step t s n hj
  generalize readE ⟨crashL d x d.safe.length, []⟩ = ec at *
  generalize readE ⟨flushL d.safe d.writes, []⟩ = ef at *
  generalize crashL d x d.safe.length = cl at *
  generalize flushL d.safe d.writes = fl at *
  generalize readD d = rd at *
  generalize readE d = re at *
  clear hg hv he
  have hd2 := hid hd
  obtain ⟨vs, vw, rfl, hs, hw, n1, n2⟩ := hd
  obtain ⟨a, cap, rfl, _⟩ := hs.form
  obtain ⟨b, bcap, rfl, _⟩ := hw.form
  replace hs := hid hs; replace hw := hid hw; replace g1 := hid g1
  replace hP := hid hP; replace hF := hid hF; replace hP2 := hid hP2; replace hS := hid hS; replace hR := hid hR; replace hRc := hid hRc; replace hRf := hid hRf; replace hT := hid hT; replace hone := hid hone; replace hnil := hid hnil; replace hstp := hid hstp
  have k0 := Blk.new w #[.slice a d.safe.length cap, .slice b d.writes.length bcap] 25
  go_enter Try.func5, Try.ntmps5
  go_wp2_with (first
    | (go_at_call 10; go_loud (refine (hP.out _ _ (hd2.out.below (bal (b0 w) _))).mono ?_; rintro e w1 ⟨v1, rfl, h1, hb1⟩; have r1 := hid h1; obtain ⟨vs1, vw1, rfl, hs1, hw1, _⟩ := h1; obtain ⟨a1, cc1, rfl, _⟩ := hs1.form; obtain ⟨b1, e1, rfl, _⟩ := hw1.form; replace r1 : Hid (RDisk w1 (.agg #[.slice a1 cl.length cc1, .slice b1 0 e1]) ⟨cl, []⟩) := r1; (try clear k0_0); (try clear k0_1); replace k0 := (by with_reducible (first | exact Blk.step k0 hb1 | exact Blk.step (Blk.alloc k0 _) hb1 | exact Blk.step (Blk.alloc (Blk.alloc k0 _) _) hb1)); have k0_0 := k0.cell 0; have k0_1 := k0.cell 1; simp only [List.getElem?_toArray, List.getElem?_cons_zero, List.getElem?_cons_succ] at k0_0 k0_1; have nx1 := bgo (bal (b0 w) _) hb1; have l0 := k0.lt; clear hb1 hs1 hw1))
    | (go_at_call 18; go_loud (refine (hF.out _ _ (hd2.out.below (bal nx1 _))).mono ?_; rintro e w2 ⟨v2, rfl, h2, hb2⟩; have r2 := hid h2; obtain ⟨vs2, vw2, rfl, hs2, hw2, _⟩ := h2; obtain ⟨a2, cc2, rfl, _⟩ := hs2.form; obtain ⟨b2, e2, rfl, _⟩ := hw2.form; replace r2 : Hid (RDisk w2 (.agg #[.slice a2 fl.length cc2, .slice b2 0 e2]) ⟨fl, []⟩) := r2; have kc := Blk.new w1 #[.slice a1 cl.length cc1, .slice b1 0 e1] 25; replace r1 := hid (r1.out.below (bgo (bal (b0 w1) _) hb2)); (try clear k0_0); (try clear k0_1); (try clear kc_0); (try clear kc_1); replace k0 := (by with_reducible (first | exact Blk.step k0 hb2 | exact Blk.step (Blk.alloc k0 _) hb2 | exact Blk.step (Blk.alloc (Blk.alloc k0 _) _) hb2)); have k0_0 := k0.cell 0; have k0_1 := k0.cell 1; replace kc := (by with_reducible (first | exact Blk.step kc hb2 | exact Blk.step (Blk.alloc kc _) hb2 | exact Blk.step (Blk.alloc (Blk.alloc kc _) _) hb2)); have kc_0 := kc.cell 0; have kc_1 := kc.cell 1; simp only [List.getElem?_toArray, List.getElem?_cons_zero, List.getElem?_cons_succ] at k0_0 k0_1 kc_0 kc_1; have nx2 := bgo (bal nx1 _) hb2; have l0 := k0.lt; have l1 := kc.lt; clear hb2 hs2 hw2))
    | (go_at_call 19; go_loud (refine (hT.out _).mono ?_; rintro e w3 ⟨rfl, hb3⟩; have kf := Blk.new w2 #[.slice a2 fl.length cc2, .slice b2 0 e2] 25; replace r1 := hid (r1.out.below (bgo (bal (b0 w2) _) hb3)); replace r2 := hid (r2.out.below (bgo (bal (b0 w2) _) hb3)); (try clear k0_0); (try clear k0_1); (try clear kc_0); (try clear kc_1); (try clear kf_0); (try clear kf_1); replace k0 := (by with_reducible (first | exact Blk.step k0 hb3 | exact Blk.step (Blk.alloc k0 _) hb3 | exact Blk.step (Blk.alloc (Blk.alloc k0 _) _) hb3)); have k0_0 := k0.cell 0; have k0_1 := k0.cell 1; replace kc := (by with_reducible (first | exact Blk.step kc hb3 | exact Blk.step (Blk.alloc kc _) hb3 | exact Blk.step (Blk.alloc (Blk.alloc kc _) _) hb3)); have kc_0 := kc.cell 0; have kc_1 := kc.cell 1; replace kf := (by with_reducible (first | exact Blk.step kf hb3 | exact Blk.step (Blk.alloc kf _) hb3 | exact Blk.step (Blk.alloc (Blk.alloc kf _) _) hb3)); have kf_0 := kf.cell 0; have kf_1 := kf.cell 1; simp only [List.getElem?_toArray, List.getElem?_cons_zero, List.getElem?_cons_succ] at k0_0 k0_1 kc_0 kc_1 kf_0 kf_1; have nx3 := bgo (bal nx2 _) hb3; have l0 := k0.lt; have l1 := kc.lt; have l2 := kf.lt; clear hb3)))
  clear k0_0 k0_1 kc_0 kc_1 kf_0 kf_1
  go_loopw [9] (fun i wr => ∃ k : Nat, k ≤ 37 ∧ i = .int .i64 k ∧ Below w3.heap.size w3 wr) (fun i _ => 37 - (intOf i).toNat)
  case atStart => exact ⟨0, by decide, rfl, b0 w3⟩
  case round =>
    obtain ⟨wo, rfl⟩ : ∃ wo : World, wo = wr := ⟨_, rfl⟩
    obtain ⟨k, hk, rfl, h3⟩ := hrel
    replace r1 := hid (r1.out.below h3)
    replace r2 := hid (r2.out.below h3)
    replace k0 := k0.step h3
    replace kc := kc.step h3
    replace kf := kf.step h3
    have nx4 := bgo nx3 h3
    have l0 := k0.lt; have l1 := kc.lt; have l2 := kf.lt
    have c0 := k0.cell 0; have c1 := k0.cell 1; have c2 := kc.cell 0; have c3 := kc.cell 1; have c4 := kf.cell 0; have c5 := kf.cell 1
    simp only [List.getElem?_toArray, List.getElem?_cons_zero, List.getElem?_cons_succ] at c0 c1 c2 c3 c4 c5
    by_cases hlt : k < 37
    · have hks : k < d.safe.length := by have := g1.out; omega
      have hRk := hR.out k hlt
      have hRck := hRc.out k hlt
      have hRfk := hRf.out k hlt
      have honek := hone.out k hks
      have hnilk := hnil.out (crashAt d x k) d.safe[k] k
      have hstpk := hstp.out (crashAt d x k) d.safe[k] k
      generalize crashAt d x k = t at *
      generalize hrdk : rd (k : Int) = rdk at *
      generalize hrek : re (k : Int) = rek at *
      clear hrdk hrek
      replace hRk := hid hRk; replace hRck := hid hRck; replace hRfk := hid hRfk; replace honek := hid honek; replace hnilk := hid hnilk; replace hstpk := hid hstpk
      go_wp2_with (go_at_call 21; go_loud ((with_reducible refine (hRck.out _ _ (r1.out)).mono ?_); rintro e w4 ⟨rfl, hb4⟩; obtain ⟨b4, off4, rfl, z0⟩ := RL.at1 (fun x => .string x) (fun _ => rfl) ((hs.out.below nx4).below hb4) hks; replace r1 := hid (r1.out.below hb4); replace r2 := hid (r2.out.below hb4); (try clear c0 c1 c2 c3 c4 c5); replace k0 := k0.step hb4; replace kc := kc.step hb4; replace kf := kf.step hb4; have nx5 := bgo nx4 hb4; have h4 := bgo h3 hb4; have l0 := k0.lt; have l1 := kc.lt; have l2 := kf.lt; have c0 := k0.cell 0; have c1 := k0.cell 1; have c2 := kc.cell 0; have c3 := kc.cell 1; have c4 := kf.cell 0; have c5 := kf.cell 1; simp only [List.getElem?_toArray, List.getElem?_cons_zero, List.getElem?_cons_succ] at c0 c1 c2 c3 c4 c5))
      generalize hsk : d.safe[k] = sk at *
      replace hsk := hid hsk
      go_loopw [12, 14, 70] (fun o _ i wi => ∃ j : Nat, j ≤ d.writes.length ∧ i = .int .i64 j ∧ o = .bool (oneB t sk k (d.writes.take j)) ∧ Below w4.heap.size w4 wi) (fun _ _ i _ => d.writes.length - (intOf i).toNat)
      case atStart => exact ⟨0, Nat.zero_le _, rfl, by rw [List.take_zero, hnilk.out], b0 w4⟩
      case round =>
        obtain ⟨j, hj, rfl, rfl, h5⟩ := hrel
        by_cases hlt2 : j < d.writes.length
        · obtain ⟨b3, off3, rfl, d1, d2⟩ := RL.at2 (fun x => .int .i64 x.at_) (fun x => .string x.text) (fun _ => rfl) ((hw.out.below nx5).below h5) hlt2
          have ld3 := World.block_lt_of_cell? _ _ d1
          dsimp only at ld3
          have hst := hstpk.out j hlt2
          generalize d.writes[j] = xw at *
          by_cases hb : oneB t sk k (d.writes.take j) = true
          · rw [hb] at hst ⊢
            rw [Bool.true_or] at hst
            replace hst := hid hst
            clear hb
            go_wp2
            go_roundw
            case rel => exact ⟨j + 1, by omega, by go_num, by rw [hst.out], bal h5 _⟩
            case measure => simp [intOf]; omega
          · rw [Bool.not_eq_true] at hb
            rw [hb] at hst ⊢
            rw [Bool.false_or] at hst
            clear hb
            by_cases ha : xw.at_ = k
            · have e1 : (xw.at_ == (k : Int)) = true := beq_iff_eq.2 ha
              rw [e1, Bool.true_and] at hst
              replace hst := hid hst
              clear ha
              go_wp2
              go_roundw
              case rel => exact ⟨j + 1, by omega, by go_num, by rw [hst.out], bal h5 _⟩
              case measure => simp [intOf]; omega
            · have e1 : (xw.at_ == (k : Int)) = false := beq_eq_false_iff_ne.2 ha
              rw [e1, Bool.false_and] at hst
              replace hst := hid hst
              clear ha
              go_wp2
              go_roundw
              case rel => exact ⟨j + 1, by omega, by go_num, by rw [hst.out], bal h5 _⟩
              case measure => simp [intOf]; omega
        · rw [List.take_of_length_le (by omega), honek.out]
          replace r1 := hid (r1.out.below h5)
          replace r2 := hid (r2.out.below h5)
          clear c0 c1 c2 c3 c4 c5
          replace k0 := k0.step h5
          replace kc := kc.step h5
          replace kf := kf.step h5
          have nx6 := bgo nx5 h5
          have h6 := bgo h4 h5
          have l0 := k0.lt; have l1 := kc.lt; have l2 := kf.lt
          have c0 := k0.cell 0; have c1 := k0.cell 1; have c2 := kc.cell 0; have c3 := kc.cell 1; have c4 := kf.cell 0; have c5 := kf.cell 1
          simp only [List.getElem?_toArray, List.getElem?_cons_zero, List.getElem?_cons_succ] at c0 c1 c2 c3 c4 c5
          go_wp2_with (first
            | (go_at_call_of 21 (Value.slice b d.writes.length bcap); go_loud ((with_reducible refine (hRk.out _ _ (hd2.out.below nx6)).mono ?_); rintro e w6 ⟨rfl, hb6⟩; replace r1 := hid (r1.out.below hb6); replace r2 := hid (r2.out.below hb6); (try clear c0 c1 c2 c3 c4 c5); replace k0 := k0.step hb6; replace kc := kc.step hb6; replace kf := kf.step hb6; have nx7 := bgo nx6 hb6; have h7 := bgo h6 hb6; have l0 := k0.lt; have l1 := kc.lt; have l2 := kf.lt; have c0 := k0.cell 0; have c1 := k0.cell 1; have c2 := kc.cell 0; have c3 := kc.cell 1; have c4 := kf.cell 0; have c5 := kf.cell 1; simp only [List.getElem?_toArray, List.getElem?_cons_zero, List.getElem?_cons_succ] at c0 c1 c2 c3 c4 c5))
            | (go_at_call 21; go_loud ((with_reducible refine (hRfk.out _ _ (r2.out)).mono ?_); rintro e w7 ⟨rfl, hb7⟩; have h8 := bgo h7 hb7)))
          go_roundw
          case rel => exact ⟨k + 1, by omega, by go_num, h8⟩
          case measure => simp [intOf]; omega
    · go_wp2_with (first
        | (go_at_call 10; go_loud (refine (hP2.out _ _ (r2.out)).mono ?_; rintro e w8 ⟨v8, rfl, h8, hb8⟩; have r8 := hid h8; obtain ⟨vs8, vw8, rfl, hs8, hw8, _⟩ := h8; obtain ⟨a8, cc8, rfl, _⟩ := hs8.form; obtain ⟨b8, e8, rfl, _⟩ := hw8.form; replace r8 : Hid (RDisk w8 (.agg #[.slice a8 fl.length cc8, .slice b8 0 e8]) ⟨fl, []⟩) := r8; replace r2 := hid (r2.out.below hb8); (try clear c0 c1 c2 c3 c4 c5); replace kc := kc.step hb8; replace kf := kf.step hb8; have nx8 := bgo nx4 hb8; have l1 := kc.lt; have l2 := kf.lt; have c2 := kc.cell 0; have c3 := kc.cell 1; have c4 := kf.cell 0; have c5 := kf.cell 1; simp only [List.getElem?_toArray, List.getElem?_cons_zero, List.getElem?_cons_succ] at c2 c3 c4 c5; clear hs8 hw8))
        | (go_at_call 22; go_loud (refine (hS.out _ _ _ (r8.out.below (bal (b0 w8) _)) (r2.out.below (bal (b0 w8) _))).mono ?_; rintro e w9 ⟨rfl, hb9⟩; have nx9 := bgo (bal nx8 _) hb9; (try clear c2 c3); replace kc := (kc.alloc _).step hb9; have c2 := kc.cell 0; have c3 := kc.cell 1; simp only [List.getElem?_toArray, List.getElem?_cons_zero, List.getElem?_cons_succ] at c2 c3)))
      go_ret
      exact ⟨rfl, nx9⟩

theorem law_DiskKeeps (d : Dsk) (n : Int) (v : Value) (w : World) (hd : RDisk w v d) (hn : n ≤ 9223372036854775807) :
    Calls Try.prog 5 #[v, .int .i64 n] w fun e w' => e = .returned (.bool true) ∧ Below w.heap.size w w' := by
  by_cases h : goodD d = true ∧ 0 ≤ n
  · obtain ⟨hg, h0⟩ := h
    have := law_DiskKeeps_good d n.toNat v w hd (by omega) hg
    rwa [Int.toNat_of_nonneg h0] at this
  · exact law_DiskKeeps_bad d n v w hd hn h
end Go.Proofs.Ytjhmfljlclajnab
