/- The walk of DecodeMark at a block that begins as a mark does. -/
import Derived.Test.YtjhmfljlclajnabDecA
import Derived.Test.YtjhmfljlclajnabDecR2
import Derived.Test.YtjhmfljlclajnabStampR3
import Derived.Deep.CutBlock
import Derived.Deep.DeepCutAuto
namespace Go.Proofs.Ytjhmfljlclajnab
open Go.RowKit Wb
set_option linter.unusedVariables false
set_option linter.unusedSimpArgs false
set_option maxRecDepth 100000
set_option maxHeartbeats 400000000
/-- What holds behind the switch: the mark's block, and where its bytes end. -/
def DecAtR (s : ByteArray) (w0 : World) (v : Value) (wx : World) : Prop :=
  v = .int .i64 (endOf s : Int) ∧ endOf s ≤ 32 ∧ (nb s 4 = 2 → flagsOk s) ∧ (nb s 4 = 3 → cnt s ≤ 20) ∧ DecAt s w0 wx

theorem ref_Decode_ok (s : ByteArray) (w : World) (hs : okS s) :
    Calls Try.prog 58 #[.string s] w fun e w' => ∃ v, e = .returned (.tuple #[v, .int .i64 (decE s)]) ∧ OMark w.heap.size w' v (decM s) ∧ Below w.heap.size w w' := by
  have hG := fun v w (hm : RMark w v (rawM s)) => ref_GoodMark (rawM s) v w hm
  have hri := ref_iff s
  have hok := hid hs
  have hd1 := fun h => dec_yes (s := s) h
  have hd0 := fun h => dec_no (s := s) h
  have h1 := hs.1
  have e1 : ((s.size : Int) != 32) = false := by rw [h1]; rfl
  have e2 := ok_ext hs
  have hbt := fun i (h : i < s.size) => bt_get s i h
  have hnb : ∀ i, ((bt s i).toNat : Int) = nb s i := fun _ => rfl
  have n4 := nb_nonneg s 9; have n5 := nb_nonneg s 4
  have l4 := nb_lt s 9; have l5 := nb_lt s 4
  have hP := fun w' => OMark.plain w.heap.size w' 0 0 0
  have hB := fun w => ref_bad w
  have r1 := fun (h : nb s 4 = 1) => (raw1 h).trans (by rw [← h] : _ = (⟨nb s 4, seqOf s, nb s 9, [], []⟩ : Mrk))
  have r2 := fun (h : nb s 4 = 2) => (raw2 h).trans (by rw [← h] : _ = (⟨nb s 4, seqOf s, 0, rawTags s (min (cnt s) 11), []⟩ : Mrk))
  have r3 := fun (h : nb s 4 = 3) => (raw3 h).trans (by rw [← h] : _ = (⟨nb s 4, seqOf s, 0, [], rawBlks s (min (cnt s) 22)⟩ : Mrk))
  have r4 := fun h1 h2 h3 => raw4 (s := s) h1 h2 h3
  have hcn := cnt_nb s
  have hsq := fun k => seqN_bd s k
  have hsq4 := seqN_4 s
  replace hG := hid hG; replace hri := hid hri; replace hd1 := hid hd1; replace hd0 := hid hd0; replace hP := hid hP; replace hB := hid hB; replace r1 := hid r1; replace r2 := hid r2; replace r3 := hid r3; replace r4 := hid r4; replace hcn := hid hcn; replace hsq := hid hsq; replace hsq4 := hid hsq4
  clear hs
  go_enter Try.func58, Try.ntmps58
  go_wp2
  go_loopw [6] (fun i wr => ∃ k : Nat, k ≤ 4 ∧ i = .int .i64 ((5 + k : Nat) : Int) ∧ Blk wr w.heap.size #[.int .i64 0, .int .i64 0, .int .i64 0, .slice none 0 0, .slice none 0 0] 38 ∧ Blk wr (w.heap.size + 1) #[.int .i64 (nb s 4), .int .i64 (seqN s k), .int .i64 0, .slice none 0 0, .slice none 0 0] 38 ∧ Below w.heap.size w wr) (fun i _ => 9 - (intOf i).toNat)
  case atStart => exact ⟨0, by decide, rfl, (Blk.new w _ _).alloc _, Blk.newAt (by simp), bal (bal (b0 w) _) _⟩
  case round =>
    obtain ⟨k, hk, rfl, kr, km, nx⟩ := hrel
    have ltr := kr.lt
    have ltm := km.lt
    have m0 := km.cell 0; have m1 := km.cell 1; have m2 := km.cell 2; have m3 := km.cell 3; have m4 := km.cell 4
    simp only [List.getElem?_toArray, List.getElem?_cons_zero, List.getElem?_cons_succ] at m0 m1 m2 m3 m4
    by_cases hlt : k < 4
    · obtain ⟨q0, q1⟩ := hsq.out k hk
      obtain ⟨q2, q3⟩ := hsq.out (k + 1) (by omega)
      have hst : seqN s (k + 1) = 256 * seqN s k + nb s (5 + k) := rfl
      have hst2 := hid hst
      rw [hst] at q2 q3
      have nj := nb_nonneg s (5 + k)
      have lj := nb_lt s (5 + k)
      have f1 := km.free 1
      clear hst
      generalize seqN s k = qk at *
      generalize hp : 5 + k = p at *
      have p0 : p < 32 := by omega
      have p1 : (p : Int) < 32 := by omega
      have p2 : (p : Int) < 9 := by omega
      have hw1 : IntKind.i64.wrap (256 * qk) = 256 * qk := IntWalk.i64_in _ (by omega)
      have hw2 : IntKind.i64.wrap (256 * qk + nb s p) = 256 * qk + nb s p := IntWalk.i64_in _ (by omega)
      have hw3 : IntKind.i64.wrap (nb s p) = nb s p := IntWalk.i64_in _ (by omega)
      replace hp := hid hp
      go_wp2
      go_region
      all_goals
        go_wp2
        have hpk := hp.out
        go_roundw
        case rel => exact ⟨k + 1, by omega, (by congr 1; omega), kr.drew.set_other _ _ (by simp), by rw [hst2.out]; exact km.drew.set 1 _, nx.drew.setCell (by simp) _⟩
        case measure => simp [intOf]; omega
    · obtain rfl : k = 4 := by omega
      rw [hsq4.out] at km m1
      clear hsq hsq4
      generalize hqq : seqOf s = q at *
      replace hqq := hid hqq
      have f0 := km.free 0; have f2 := km.free 2; have f3 := km.free 3; have f4 := km.free 4
      have hcn2 : cnt s = (nb s 9).toNat := by have := hcn.out; omega
      replace hcn2 := hid hcn2
      go_upto_block 2 with fail
      go_cut [8] (fun s8 wx => DecAtR s w s8 wx)
      case first =>
        by_cases k1' : nb s 4 = 1
        · have hR := hid (r1.out k1')
          have he := hid (show endOf s = 10 by simp [endOf, k1'])
          have b1 : (nb s 4 == 1) = true := beq_iff_eq.2 k1'
          have x2 := hid (show nb s 4 = 2 → flagsOk s from fun h => by omega)
          have x3 := hid (show nb s 4 = 3 → cnt s ≤ 20 from fun h => by omega)
          clear k1'
          go_wp2
          go_meet
          exact ⟨by rw [he.out]; rfl, by rw [he.out]; decide, x2.out, x3.out, DecAt.of hR.out (Own.nil _ _ _ _ _) (Own.nil _ _ _ _ _) (kr.set_other ⟨w.heap.size + 1, 2, none⟩ (.int .i64 (nb s 9)) (by simp)) (km.set 2 (.int .i64 (nb s 9))) (nx.setCell (p := ⟨w.heap.size + 1, 2, none⟩) (by simp) (.int .i64 (nb s 9)))⟩
        have b1 : (nb s 4 == 1) = false := beq_eq_false_iff_ne.2 k1'
        by_cases k2' : nb s 4 = 2
        · have hR := hid (r2.out k2')
          have he := hid (show endOf s = 10 + 2 * cnt s by simp [endOf, k2'])
          have b2 : (nb s 4 == 2) = true := beq_iff_eq.2 k2'
          have hk2 := hid k2'
          clear k1' k2'
          by_cases hc : nb s 9 ≤ 10
          · go_wp2
            go_loopw [9] (fun i wr => ∃ k : Nat, (k : Int) ≤ nb s 9 ∧ i = .int .i64 (k : Int) ∧ Hid (∀ j, j < k → nb s (11 + 2 * j) ≤ 1) ∧ ∃ vo, Own tagC (w.heap.size + 2) 82 2 wr vo (rawTags s k) ∧ Blk wr w.heap.size #[.int .i64 0, .int .i64 0, .int .i64 0, .slice none 0 0, .slice none 0 0] 38 ∧ Blk wr (w.heap.size + 1) #[.int .i64 (nb s 4), .int .i64 q, .int .i64 0, vo, .slice none 0 0] 38 ∧ Below w.heap.size w wr) (fun i _ => 33 - (intOf i).toNat)
            case atStart => exact ⟨0, n4, rfl, hid (fun j hj => absurd hj (Nat.not_lt_zero j)), _, Own.nil _ _ _ _ _, kr, km, nx⟩
            case round => 
              clear kr km nx m0 m1 m2 m3 m4 f0 f2 f3 f4 ltr ltm
              obtain ⟨k, j1, rfl, hfl, vo, hown, kr, km, nx⟩ := hrel
              obtain ⟨ao, capo, rfl⟩ := hown.form
              have hjl := rawTags_len s k
              rw [hjl] at hown km
              have ltr := kr.lt
              have ltm := km.lt
              have m0 := km.cell 0; have m1 := km.cell 1; have m2 := km.cell 2; have m3 := km.cell 3; have m4 := km.cell 4
              simp only [List.getElem?_toArray, List.getElem?_cons_zero, List.getElem?_cons_succ] at m0 m1 m2 m3 m4
              have f3 := km.free 3
              by_cases hlt : (k : Int) < nb s 9
              · have nj := nb_nonneg s (11 + 2 * k)
                have lj := nb_lt s (11 + 2 * k)
                have ni := nb_nonneg s (10 + 2 * k)
                have li := nb_lt s (10 + 2 * k)
                have y1 : 11 + 2 * k < 32 := by omega
                have y2 : 10 + 2 * k < 32 := by omega
                have y3 : (11 : Int) + 2 * k < 32 := by omega
                have y4 : (10 : Int) + 2 * k < 32 := by omega
                have y5 : (0 : Int) ≤ 11 + 2 * k := by omega
                have y6 : (0 : Int) ≤ 10 + 2 * k := by omega
                have y7 : ((11 : Int) + 2 * k).toNat = 11 + 2 * k := by omega
                have y8 : ((10 : Int) + 2 * k).toNat = 10 + 2 * k := by omega
                have w1 : IntKind.i64.wrap (2 * (k : Int)) = 2 * k := IntWalk.i64_in _ (by omega)
                have w2 : IntKind.i64.wrap ((11 : Int) + 2 * k) = 11 + 2 * k := IntWalk.i64_in _ (by omega)
                have w3 : IntKind.i64.wrap ((10 : Int) + 2 * k) = 10 + 2 * k := IntWalk.i64_in _ (by omega)
                have w4 : IntKind.i64.wrap (nb s (10 + 2 * k)) = nb s (10 + 2 * k) := IntWalk.i64_in _ (by omega)
                by_cases hfk : nb s (11 + 2 * k) ≤ 1
                · have hst := hid (rawTags_succ s k)
                  have hjl := hid hjl
                  have hfl2 := hid (show ∀ j, j < k + 1 → nb s (11 + 2 * j) ≤ 1 from fun j hj => by
                    by_cases e : j = k
                    · subst e; exact hfk
                    · exact hfl.out j (by omega))
                  generalize rawTags s k = L at *
                  go_wp2
                  go_region_law (first | go_loud (refine step_push (by rfl) _ _ 35 (by rfl) (w.heap.size + 2) _ 2 16 tagC_flat elemTag ((hown.alloc _).drew) (by rfl) ⟨nb s (10 + 2 * k), nb s (11 + 2 * k) == 1⟩ wr.heap.size ((Blk.newAt (w := wr) rfl).drew) (by rfl) (by rfl) k hjl.out (by omega) (by omega) (by (try simp); omega) ?_; intro a4 cap4 w4' hown4 hb4 _; have k4 := ((km.alloc _).drew).below hb4 (by omega); have g4 := k4.cell 3; simp only [List.getElem?_toArray, List.getElem?_cons_zero, List.getElem?_cons_succ] at g4; have f4' := k4.free 3; have kr4 := ((kr.alloc _).drew).below hb4 (by omega); have nx4 := ((bal nx _).drew).trans (hb4.mono (by omega))))
                  all_goals
                    go_wp2
                    have htag : (⟨nb s (10 + 2 * k), nb s (11 + 2 * k) == 1⟩ : Tag) = tagAt s k := rfl
                    rw [htag, ← hst.out] at hown4
                    go_roundw
                    case rel =>
                      (repeat apply Exists.intro)
                      refine ⟨⟨k + 1, by omega, ?_, hfl2, _, hown4.setCell (p := ⟨w.heap.size + 1, 3, none⟩) (by simp) _, kr4.set_other _ _ (by simp), k4.set 3 _, nx4.setCell (by simp) _⟩, rfl⟩
                      go_num
                    case measure => simp [intOf]; omega
                · have hnd : ¬ decOk s := (fun h => absurd (hri.out.2 h) (fun h => hfk ((h.2.1 hk2.out).2 k (by have := hcn.out; omega)))); obtain ⟨dM, dE⟩ := hd0.out hnd; replace dM := hid dM; replace dE := hid dE; clear hnd
                  have hfk2 : 1 < nb s (11 + 2 * k) := by omega
                  go_wp2_with (go_at_call 81; go_loud (refine (hB.out _).mono ?_; rintro e w9 ⟨rfl, hb9⟩; replace kr := (by with_reducible (first | exact Blk.step kr hb9 | exact Blk.step (Blk.alloc kr _) hb9)); have nx9 := (by with_reducible (first | exact bgo nx hb9 | exact bgo (bal (b0 w) _) hb9)); have r0 := kr.cell 0; have r1 := kr.cell 1; have r2 := kr.cell 2; have r3 := kr.cell 3; have r4 := kr.cell 4; have z0 := kr.free 0; have z1 := kr.free 1; have z2 := kr.free 2; have z3 := kr.free 3; have z4 := kr.free 4; simp only [List.getElem?_toArray, List.getElem?_cons_zero, List.getElem?_cons_succ] at r0 r1 r2 r3 r4))
                  exact bodyPost_ret (v := .tuple #[.agg #[.int .i64 0, .int .i64 0, .int .i64 0, .slice none 0 0, .slice none 0 0], .int .i64 1]) (by simp [results, Try.results58, go_sem, r0, r1, r2, r3, r4]) rfl ⟨_, by rw [dE.out], by rw [dM.out]; exact hP.out _, ((((nx9.setCell (by simp) _).setCell (by simp) _).setCell (by simp) _).setCell (by simp) _).setCell (by simp) _⟩
              · have hkc : k = cnt s := by have := hcn.out; omega
                have hwx : IntKind.i64.wrap (2 * nb s 9) = 2 * nb s 9 := IntWalk.i64_in _ (by omega)
                have hwy : IntKind.i64.wrap (10 + 2 * nb s 9) = 10 + 2 * nb s 9 := IntWalk.i64_in _ (by omega)
                have hc10 : cnt s ≤ 10 := by omega
                have hflg : flagsOk s := ⟨hc10, fun i hi => hfl.out i (by omega)⟩
                have hD : DecAtR s w (.int .i64 (10 + 2 * nb s 9)) wr := by
                  refine ⟨?_, by rw [he.out]; omega, fun _ => hflg, fun h => by have := hk2.out; omega, DecAt.of hR.out ?_ (Own.nil _ _ _ _ _) kr km nx⟩
                  · rw [he.out]; congr 1; (try (have := hcn.out; omega))
                  · rw [Nat.min_eq_left (by omega), ← hkc]; exact hown
                replace hD := hid hD
                replace hkc := hid hkc
                clear hc10
                replace hflg := hid hflg
                go_wp2
                go_meet
                exact hD.out
          · have hnd : ¬ decOk s := (fun h => absurd (hri.out.2 h) (fun h => absurd (h.2.1 hk2.out).1 (by have := hcn.out; omega))); obtain ⟨dM, dE⟩ := hd0.out hnd; replace dM := hid dM; replace dE := hid dE; clear hnd
            have hc2 : 10 < nb s 9 := by omega
            go_wp2_with (go_at_call 81; go_loud (refine (hB.out _).mono ?_; rintro e w9 ⟨rfl, hb9⟩; replace kr := (by with_reducible (first | exact Blk.step kr hb9 | exact Blk.step (Blk.alloc kr _) hb9)); have nx9 := (by with_reducible (first | exact bgo nx hb9 | exact bgo (bal (b0 w) _) hb9)); have r0 := kr.cell 0; have r1 := kr.cell 1; have r2 := kr.cell 2; have r3 := kr.cell 3; have r4 := kr.cell 4; have z0 := kr.free 0; have z1 := kr.free 1; have z2 := kr.free 2; have z3 := kr.free 3; have z4 := kr.free 4; simp only [List.getElem?_toArray, List.getElem?_cons_zero, List.getElem?_cons_succ] at r0 r1 r2 r3 r4))
            exact bodyPost_ret (v := .tuple #[.agg #[.int .i64 0, .int .i64 0, .int .i64 0, .slice none 0 0, .slice none 0 0], .int .i64 1]) (by simp [results, Try.results58, go_sem, r0, r1, r2, r3, r4]) rfl ⟨_, by rw [dE.out], by rw [dM.out]; exact hP.out _, ((((nx9.setCell (by simp) _).setCell (by simp) _).setCell (by simp) _).setCell (by simp) _).setCell (by simp) _⟩
        have b2 : (nb s 4 == 2) = false := beq_eq_false_iff_ne.2 k2'
        by_cases k3' : nb s 4 = 3
        · have hR := hid (r3.out k3')
          have he := hid (show endOf s = 10 + cnt s by simp [endOf, k3'])
          have b3 : (nb s 4 == 3) = true := beq_iff_eq.2 k3'
          have hk3 := hid k3'
          clear k1' k2' k3'
          by_cases hc : nb s 9 ≤ 20
          · go_wp2
            go_loopw [10] (fun i wr => ∃ k : Nat, (k : Int) ≤ nb s 9 ∧ i = .int .i64 (k : Int) ∧ ∃ vo, Own intC (w.heap.size + 2) 3 1 wr vo (rawBlks s k) ∧ Blk wr w.heap.size #[.int .i64 0, .int .i64 0, .int .i64 0, .slice none 0 0, .slice none 0 0] 38 ∧ Blk wr (w.heap.size + 1) #[.int .i64 (nb s 4), .int .i64 q, .int .i64 0, .slice none 0 0, vo] 38 ∧ Below w.heap.size w wr) (fun i _ => 33 - (intOf i).toNat)
            case atStart => exact ⟨0, n4, rfl, _, Own.nil _ _ _ _ _, kr, km, nx⟩
            case round => 
              clear kr km nx m0 m1 m2 m3 m4 f0 f2 f3 f4 ltr ltm
              obtain ⟨k, j1, rfl, vo, hown, kr, km, nx⟩ := hrel
              obtain ⟨ao, capo, rfl⟩ := hown.form
              have hjl := rawBlks_len s k
              rw [hjl] at hown km
              have ltr := kr.lt
              have ltm := km.lt
              have m0 := km.cell 0; have m1 := km.cell 1; have m2 := km.cell 2; have m3 := km.cell 3; have m4 := km.cell 4
              simp only [List.getElem?_toArray, List.getElem?_cons_zero, List.getElem?_cons_succ] at m0 m1 m2 m3 m4
              have f4 := km.free 4
              by_cases hlt : (k : Int) < nb s 9
              · have ni := nb_nonneg s (10 + k)
                have li := nb_lt s (10 + k)
                have y2 : 10 + k < 32 := by omega
                have y4 : (10 : Int) + k < 32 := by omega
                have y6 : (0 : Int) ≤ 10 + k := by omega
                have y8 : ((10 : Int) + k).toNat = 10 + k := by omega
                have w3 : IntKind.i64.wrap ((10 : Int) + k) = 10 + k := IntWalk.i64_in _ (by omega)
                have w4 : IntKind.i64.wrap (nb s (10 + k)) = nb s (10 + k) := IntWalk.i64_in _ (by omega)
                have hst := hid (rawBlks_succ s k)
                have hjl := hid hjl
                generalize rawBlks s k = L at *
                go_wp2
                go_region_law (first | go_loud (refine step_push (by rfl) _ _ 36 (by rfl) (w.heap.size + 2) _ 1 8 intC_flat elemInt ((hown.alloc _).drew) (by rfl) (nb s (10 + k)) wr.heap.size ((Blk.newAt (w := wr) rfl).drew) (by rfl) (by rfl) k hjl.out (by omega) (by omega) (by (try simp); omega) ?_; intro a4 cap4 w4' hown4 hb4 _; have k4 := ((km.alloc _).drew).below hb4 (by omega); have g4 := k4.cell 4; simp only [List.getElem?_toArray, List.getElem?_cons_zero, List.getElem?_cons_succ] at g4; have f4' := k4.free 4; have kr4 := ((kr.alloc _).drew).below hb4 (by omega); have nx4 := ((bal nx _).drew).trans (hb4.mono (by omega))))
                all_goals
                  go_wp2
                  rw [← hst.out] at hown4
                  go_roundw
                  case rel =>
                    (repeat apply Exists.intro)
                    refine ⟨⟨k + 1, by omega, ?_, _, hown4.setCell (p := ⟨w.heap.size + 1, 4, none⟩) (by simp) _, kr4.set_other _ _ (by simp), k4.set 4 _, nx4.setCell (by simp) _⟩, rfl⟩
                    go_num
                  case measure => simp [intOf]; omega
              · have hkc : k = cnt s := by have := hcn.out; omega
                have hwy : IntKind.i64.wrap (10 + nb s 9) = 10 + nb s 9 := IntWalk.i64_in _ (by omega)
                have hD : DecAtR s w (.int .i64 (10 + nb s 9)) wr := by
                  refine ⟨?_, by rw [he.out]; omega, fun h => by have := hk3.out; omega, fun _ => by omega, DecAt.of hR.out (Own.nil _ _ _ _ _) ?_ kr km nx⟩
                  · rw [he.out]; congr 1
                  · rw [Nat.min_eq_left (by omega), ← hkc]; exact hown
                replace hD := hid hD
                replace hkc := hid hkc
                go_wp2
                go_meet
                exact hD.out
          · have hnd : ¬ decOk s := (fun h => absurd (hri.out.2 h) (fun h => absurd (h.2.2.1 hk3.out) (by have := hcn.out; omega))); obtain ⟨dM, dE⟩ := hd0.out hnd; replace dM := hid dM; replace dE := hid dE; clear hnd
            have hc2 : 20 < nb s 9 := by omega
            go_wp2_with (go_at_call 81; go_loud (refine (hB.out _).mono ?_; rintro e w9 ⟨rfl, hb9⟩; replace kr := (by with_reducible (first | exact Blk.step kr hb9 | exact Blk.step (Blk.alloc kr _) hb9)); have nx9 := (by with_reducible (first | exact bgo nx hb9 | exact bgo (bal (b0 w) _) hb9)); have r0 := kr.cell 0; have r1 := kr.cell 1; have r2 := kr.cell 2; have r3 := kr.cell 3; have r4 := kr.cell 4; have z0 := kr.free 0; have z1 := kr.free 1; have z2 := kr.free 2; have z3 := kr.free 3; have z4 := kr.free 4; simp only [List.getElem?_toArray, List.getElem?_cons_zero, List.getElem?_cons_succ] at r0 r1 r2 r3 r4))
            exact bodyPost_ret (v := .tuple #[.agg #[.int .i64 0, .int .i64 0, .int .i64 0, .slice none 0 0, .slice none 0 0], .int .i64 1]) (by simp [results, Try.results58, go_sem, r0, r1, r2, r3, r4]) rfl ⟨_, by rw [dE.out], by rw [dM.out]; exact hP.out _, ((((nx9.setCell (by simp) _).setCell (by simp) _).setCell (by simp) _).setCell (by simp) _).setCell (by simp) _⟩
        have b3 : (nb s 4 == 3) = false := beq_eq_false_iff_ne.2 k3'
        have hR := hid (r4.out k1' k2' k3')
        have he := hid (show endOf s = 9 by simp [endOf, k1', k2', k3'])
        have x2 := hid (show nb s 4 = 2 → flagsOk s from fun h => absurd h k2')
        have x3 := hid (show nb s 4 = 3 → cnt s ≤ 20 from fun h => absurd h k3')
        clear k1' k2' k3'
        go_wp2
        go_meet
        exact ⟨by rw [he.out]; rfl, by rw [he.out]; decide, x2.out, x3.out, DecAt.of hR.out (Own.nil _ _ _ _ _) (Own.nil _ _ _ _ _) kr km nx⟩
      case rest => 
        obtain ⟨rfl, he32, hf2, hf3, vt, vb, o1, o2, kr2, km2, nx2⟩ := hcut
        obtain ⟨at1, ct1, rfl⟩ := o1.form
        obtain ⟨ab1, cb1, rfl⟩ := o2.form
        have hq1 : (rawM s).tags.length ≤ 11 := by
          show (if nb s 4 = 2 then rawTags s (min (cnt s) 11) else []).length ≤ 11
          split
          · rw [rawTags_len]; omega
          · exact Nat.zero_le _
        have hq2 : (rawM s).blocks.length ≤ 22 := by
          show (if nb s 4 = 3 then rawBlks s (min (cnt s) 22) else []).length ≤ 22
          split
          · rw [rawBlks_len]; omega
          · exact Nat.zero_le _
        have hrm : ∀ w', Own tagC (w.heap.size + 2) 82 2 w' (.slice at1 (rawM s).tags.length ct1) (rawM s).tags → Own intC (w.heap.size + 2) 3 1 w' (.slice ab1 (rawM s).blocks.length cb1) (rawM s).blocks → OMark w.heap.size w' (.agg #[.int .i64 (rawM s).kind, .int .i64 (rawM s).seq, .int .i64 (rawM s).at_, .slice at1 (rawM s).tags.length ct1, .slice ab1 (rawM s).blocks.length cb1]) (rawM s) := fun _ h1 h2 => ⟨_, _, rfl, h1.mono (by omega), h2.mono (by omega), hq1, hq2⟩
        have hN := fun w => ref_noughts s (endOf s) w (by omega) (by omega)
        -- what the two tests say of the bytes
        have hyes : decOk s → markE (rawM s) = 0 ∧ noughts s (endOf s) = true := fun h => by
          obtain ⟨_, _, _, g1, g2⟩ := hri.out.2 h
          exact ⟨g1, noughts_yes fun i hi hni => g2 i hni (by omega)⟩
        have hno : markE (rawM s) = 0 → noughts s (endOf s) = true → decOk s := fun g1 g2 => hri.out.1 ⟨hok.out, hf2, hf3, g1, fun i hni hi => of_decide_eq_true g2 i (by omega) hni⟩
        have hd1 := fun h => (hd1.out h).1
        have hd2 := fun h => (hd0.out h)
        have hd1' := fun (h : decOk s) => (dec_yes h).2.1
        have hG := hG.out
        clear hri hok hf2 hf3 r1 r2 r3 r4 hcn hcn2 hbt hnb n4 n5 l4 l5 e2 kr km nx m0 m1 m2 m3 m4 f0 f2 f3 f4 ltr ltm hd0
        generalize rawM s = M at *
        obtain ⟨mk, mq, ma, tags, blocks⟩ := M
        dsimp only at *
        generalize hMM : (⟨mk, mq, ma, tags, blocks⟩ : Mrk) = M at *
        clear hMM
        generalize endOf s = en at *
        replace hG := hid hG; replace hrm := hid hrm; replace hN := hid hN; replace hyes := hid hyes; replace hno := hid hno; replace hd1 := hid hd1; replace hd2 := hid hd2; replace hd1' := hid hd1'
        have kr := kr2; have km := km2; have nx := nx2; clear kr2 km2 nx2
        have ltm := km.lt
        have m0 := km.cell 0; have m1 := km.cell 1; have m2 := km.cell 2; have m3 := km.cell 3; have m4 := km.cell 4
        simp only [List.getElem?_toArray, List.getElem?_cons_zero, List.getElem?_cons_succ] at m0 m1 m2 m3 m4
        by_cases hd : decOk s
        · have dM := hid (hd1.out hd)
          have dE := hid (hd1'.out hd)
          obtain ⟨g1, g2⟩ := hyes.out hd
          replace hG := hG.out
          replace hN := hN.out
          rw [g1] at hG
          rw [g2] at hN
          replace hG := hid hG; replace hN := hid hN
          clear hd hd1 hd2 hd1' hyes hno g1 g2
          go_wp2_with (first
            | (go_at_call 82; go_loud ((with_reducible refine (hG.out _ _ (hrm.out _ o1 o2).reads).mono ?_); rintro e w1 ⟨rfl, hb1⟩; replace o1 := o1.below hb1; replace o2 := o2.below hb1; replace km := km.step hb1; replace kr := kr.step hb1; have nx := bgo nx hb1; (try clear m0 m1 m2 m3 m4); have m0 := km.cell 0; have m1 := km.cell 1; have m2 := km.cell 2; have m3 := km.cell 3; have m4 := km.cell 4; have r0 := kr.cell 0; have r1 := kr.cell 1; have r2 := kr.cell 2; have r3 := kr.cell 3; have r4 := kr.cell 4; have z0 := kr.free 0; have z1 := kr.free 1; have z2 := kr.free 2; have z3 := kr.free 3; have z4 := kr.free 4; simp only [List.getElem?_toArray, List.getElem?_cons_zero, List.getElem?_cons_succ] at m0 m1 m2 m3 m4 r0 r1 r2 r3 r4))
            | (go_at_call 83; go_loud (refine (hN.out _).mono ?_; rintro e w2 ⟨rfl, rfl⟩)))
          have p1 := ((((o1.setCell (p := ⟨w.heap.size, 0, none⟩) (by simp) (.int .i64 mk)).setCell (p := ⟨w.heap.size, 1, none⟩) (by simp) (.int .i64 mq)).setCell (p := ⟨w.heap.size, 2, none⟩) (by simp) (.int .i64 ma)).setCell (p := ⟨w.heap.size, 3, none⟩) (by simp) (.slice at1 tags.length ct1)).setCell (p := ⟨w.heap.size, 4, none⟩) (by simp) (.slice ab1 blocks.length cb1)
          have p2 := ((((o2.setCell (p := ⟨w.heap.size, 0, none⟩) (by simp) (.int .i64 mk)).setCell (p := ⟨w.heap.size, 1, none⟩) (by simp) (.int .i64 mq)).setCell (p := ⟨w.heap.size, 2, none⟩) (by simp) (.int .i64 ma)).setCell (p := ⟨w.heap.size, 3, none⟩) (by simp) (.slice at1 tags.length ct1)).setCell (p := ⟨w.heap.size, 4, none⟩) (by simp) (.slice ab1 blocks.length cb1)
          refine bodyPost_ret (v := .tuple #[.agg #[.int .i64 mk, .int .i64 mq, .int .i64 ma, .slice at1 tags.length ct1, .slice ab1 blocks.length cb1], .int .i64 0]) (by simp [results, Try.results58, go_sem, r0, r1, r2, r3, r4]) rfl ⟨_, by rw [dE.out], by rw [dM.out]; exact hrm.out _ p1 p2, ?_⟩
          exact ((((nx.setCell (by simp) _).setCell (by simp) _).setCell (by simp) _).setCell (by simp) _).setCell (by simp) _
        · obtain ⟨dM, dE⟩ := hd2.out hd
          replace dM := hid dM
          replace dE := hid dE
          by_cases g1 : markE M = 0
          · have g2 : noughts s en = false := by
              cases hh : noughts s en
              · rfl
              · exact absurd (hno.out g1 hh) hd
            replace hG := hG.out
            replace hN := hN.out
            rw [g1] at hG
            rw [g2] at hN
            replace hG := hid hG; replace hN := hid hN
            clear hd hd1 hd2 hd1' hyes hno g1 g2
            go_wp2_with (first
              | (go_at_call 82; go_loud ((with_reducible refine (hG.out _ _ (hrm.out _ o1 o2).reads).mono ?_); rintro e w1 ⟨rfl, hb1⟩; replace o1 := o1.below hb1; replace o2 := o2.below hb1; replace km := km.step hb1; replace kr := kr.step hb1; have nx := bgo nx hb1; (try clear m0 m1 m2 m3 m4); have m0 := km.cell 0; have m1 := km.cell 1; have m2 := km.cell 2; have m3 := km.cell 3; have m4 := km.cell 4; have r0 := kr.cell 0; have r1 := kr.cell 1; have r2 := kr.cell 2; have r3 := kr.cell 3; have r4 := kr.cell 4; have z0 := kr.free 0; have z1 := kr.free 1; have z2 := kr.free 2; have z3 := kr.free 3; have z4 := kr.free 4; simp only [List.getElem?_toArray, List.getElem?_cons_zero, List.getElem?_cons_succ] at m0 m1 m2 m3 m4 r0 r1 r2 r3 r4))
              | (go_at_call 83; go_loud (refine (hN.out _).mono ?_; rintro e w2 ⟨rfl, rfl⟩))
              | (go_at_call 81; go_loud (refine (hB.out _).mono ?_; rintro e w9 ⟨rfl, hb9⟩; replace kr := (by with_reducible (first | exact Blk.step kr hb9 | exact Blk.step (Blk.alloc kr _) hb9)); have nx9 := (by with_reducible (first | exact bgo nx hb9 | exact bgo (bal (b0 w) _) hb9)); have r0 := kr.cell 0; have r1 := kr.cell 1; have r2 := kr.cell 2; have r3 := kr.cell 3; have r4 := kr.cell 4; have z0 := kr.free 0; have z1 := kr.free 1; have z2 := kr.free 2; have z3 := kr.free 3; have z4 := kr.free 4; simp only [List.getElem?_toArray, List.getElem?_cons_zero, List.getElem?_cons_succ] at r0 r1 r2 r3 r4)))
            exact bodyPost_ret (v := .tuple #[.agg #[.int .i64 0, .int .i64 0, .int .i64 0, .slice none 0 0, .slice none 0 0], .int .i64 1]) (by simp [results, Try.results58, go_sem, r0, r1, r2, r3, r4]) rfl ⟨_, by rw [dE.out], by rw [dM.out]; exact hP.out _, ((((nx9.setCell (by simp) _).setCell (by simp) _).setCell (by simp) _).setCell (by simp) _).setCell (by simp) _⟩
          · have hne : (markE M != 0) = true := bne_iff_ne.2 g1
            clear hd hd1 hd2 hd1' hyes hno g1
            generalize markE M = me at *
            go_wp2_with (first
              | (go_at_call 82; go_loud ((with_reducible refine (hG.out _ _ (hrm.out _ o1 o2).reads).mono ?_); rintro e w1 ⟨rfl, hb1⟩; replace o1 := o1.below hb1; replace o2 := o2.below hb1; replace km := km.step hb1; replace kr := kr.step hb1; have nx := bgo nx hb1; (try clear m0 m1 m2 m3 m4); have m0 := km.cell 0; have m1 := km.cell 1; have m2 := km.cell 2; have m3 := km.cell 3; have m4 := km.cell 4; have r0 := kr.cell 0; have r1 := kr.cell 1; have r2 := kr.cell 2; have r3 := kr.cell 3; have r4 := kr.cell 4; have z0 := kr.free 0; have z1 := kr.free 1; have z2 := kr.free 2; have z3 := kr.free 3; have z4 := kr.free 4; simp only [List.getElem?_toArray, List.getElem?_cons_zero, List.getElem?_cons_succ] at m0 m1 m2 m3 m4 r0 r1 r2 r3 r4))
              | (go_at_call 81; go_loud (refine (hB.out _).mono ?_; rintro e w9 ⟨rfl, hb9⟩; replace kr := (by with_reducible (first | exact Blk.step kr hb9 | exact Blk.step (Blk.alloc kr _) hb9)); have nx9 := (by with_reducible (first | exact bgo nx hb9 | exact bgo (bal (b0 w) _) hb9)); have r0 := kr.cell 0; have r1 := kr.cell 1; have r2 := kr.cell 2; have r3 := kr.cell 3; have r4 := kr.cell 4; have z0 := kr.free 0; have z1 := kr.free 1; have z2 := kr.free 2; have z3 := kr.free 3; have z4 := kr.free 4; simp only [List.getElem?_toArray, List.getElem?_cons_zero, List.getElem?_cons_succ] at r0 r1 r2 r3 r4)))
            exact bodyPost_ret (v := .tuple #[.agg #[.int .i64 0, .int .i64 0, .int .i64 0, .slice none 0 0, .slice none 0 0], .int .i64 1]) (by simp [results, Try.results58, go_sem, r0, r1, r2, r3, r4]) rfl ⟨_, by rw [dE.out], by rw [dM.out]; exact hP.out _, ((((nx9.setCell (by simp) _).setCell (by simp) _).setCell (by simp) _).setCell (by simp) _).setCell (by simp) _⟩
end Go.Proofs.Ytjhmfljlclajnab
