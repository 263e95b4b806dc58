/- The law on what is taken in two parts: its walk. -/
import Derived.Test.YtjhmfljlclajnaaRing6
namespace Go.Proofs.Ytjhmfljlclajnaa
open Go.RowKit Wb
set_option linter.unusedVariables false
set_option linter.unusedSimpArgs false
set_option maxRecDepth 100000
set_option maxHeartbeats 4000000

theorem law_RingParts (r : Ring) (n m : Int) (w : World) :
    Calls Try.prog 5 #[r.val, .int .i64 n, .int .i64 m] w fun e w' => e = .returned (.bool true) ∧ Below w.heap.size w w' := by
  have hPn := fun w => keep_pick n 25 w (by decide) (by decide)
  have hPm := fun w => keep_pick m 25 w (by decide) (by decide)
  have n0 := Int.emod_nonneg n (show (25 : Int) ≠ 0 by decide)
  have n1 := Int.emod_lt_of_pos n (show (0 : Int) < 25 by decide)
  have m0 := Int.emod_nonneg m (show (25 : Int) ≠ 0 by decide)
  have m1 := Int.emod_lt_of_pos m (show (0 : Int) < 25 by decide)
  generalize n % 25 = a at *
  generalize m % 25 = b at *
  have hR := fun w => keep_rings w
  have hT1 := fun w => ring_Take r a w
  have hT2 := fun w => ring_Take (takeR r a) b w
  have hT3 := fun w => ring_Take r (a + b) w
  by_cases h1 : takeE r a = 0
  rotate_left
  · have h3 := take_not n0 m0 (.inl h1)
    have t1 : (takeE r a != 0) = true := bne_iff_ne.2 h1
    have t3 : (takeE r (a + b) != 0) = true := bne_iff_ne.2 h3
    generalize takeE r a = e1 at *
    generalize takeE (takeR r a) b = e2 at *
    generalize takeE r (a + b) = e3 at *
    generalize takeR (takeR r a) b = rb at *
    generalize takeR r a = ra at *
    generalize takeR r (a + b) = rc at *
    generalize takeL r a = la at *
    generalize takeL ra b = lb at *
    generalize takeL r (a + b) = lc at *
    obtain ⟨p, u⟩ := r
    obtain ⟨ap, au⟩ := ra
    obtain ⟨bp, bu⟩ := rb
    obtain ⟨cp, cu⟩ := rc
    unfold Ring.val at *
    dsimp only at *
    clear h1 h3
    replace hPn := hid hPn; replace hPm := hid hPm; replace hR := hid hR; replace hT1 := hid hT1; replace hT2 := hid hT2; replace hT3 := hid hT3
    have k0 := Blk.new w #[.int .i64 p, .int .i64 u] 24
    go_enter Try.func5, Try.ntmps5
    go_wp2_with (first
      | (go_at_call 23; first | ((with_reducible refine (hPn.out _).mono ?_); rintro e w' ⟨rfl, rfl⟩) | ((with_reducible refine (hPm.out _).mono ?_); rintro e w' ⟨rfl, rfl⟩))
      | (go_at_call 14; first
        | ((with_reducible refine (hT1.out _).mono ?_); rintro e w1 ⟨v1, rfl, o1, hb1⟩; have nx := bgo (bal (b0 w) _) hb1; (try clear k0_0); (try clear k0_1); replace k0 := (by with_reducible (first | exact Blk.step k0 hb1 | exact Blk.step (Blk.alloc k0 _) hb1 | exact Blk.step (Blk.alloc (Blk.alloc k0 _) _) hb1)); have k0_0 := k0.cell 0; have k0_1 := k0.cell 1; simp only [List.getElem?_toArray, List.getElem?_cons_zero, List.getElem?_cons_succ] at k0_0 k0_1; have l0 := k0.lt)
        | ((with_reducible refine (hT2.out _).mono ?_); rintro e w2 ⟨v2, rfl, o2, hb2⟩; have nx := bgo (bal nx _) hb2; (try clear k0_0); (try clear k0_1); replace k0 := (by with_reducible (first | exact Blk.step k0 hb2 | exact Blk.step (Blk.alloc k0 _) hb2 | exact Blk.step (Blk.alloc (Blk.alloc k0 _) _) hb2)); have k0_0 := k0.cell 0; have k0_1 := k0.cell 1; simp only [List.getElem?_toArray, List.getElem?_cons_zero, List.getElem?_cons_succ] at k0_0 k0_1; have l0 := k0.lt)
        | ((with_reducible refine (hT3.out _).mono ?_); rintro e w3 ⟨v3, rfl, o3, hb3⟩; have nx := bgo (bal nx _) hb3))
      | (go_at_call 24; refine (hR.out _).mono ?_; rintro e w4 ⟨rfl, hb4⟩; have nx := bgo (bal nx _) hb4))
    go_ret
    exact ⟨rfl, nx⟩
  by_cases h2 : takeE (takeR r a) b = 0
  rotate_left
  · have h3 := take_not n0 m0 (.inr ⟨h1, h2⟩)
    have t1 : (takeE r a != 0) = false := by rw [h1]; rfl
    have t2 : (takeE (takeR r a) b != 0) = true := bne_iff_ne.2 h2
    have t3 : (takeE r (a + b) != 0) = true := bne_iff_ne.2 h3
    generalize takeE r a = e1 at *
    generalize takeE (takeR r a) b = e2 at *
    generalize takeE r (a + b) = e3 at *
    generalize takeR (takeR r a) b = rb at *
    generalize takeR r a = ra at *
    generalize takeR r (a + b) = rc at *
    generalize takeL r a = la at *
    generalize takeL ra b = lb at *
    generalize takeL r (a + b) = lc at *
    obtain ⟨p, u⟩ := r
    obtain ⟨ap, au⟩ := ra
    obtain ⟨bp, bu⟩ := rb
    obtain ⟨cp, cu⟩ := rc
    unfold Ring.val at *
    dsimp only at *
    clear h1 h2 h3
    replace hPn := hid hPn; replace hPm := hid hPm; replace hR := hid hR; replace hT1 := hid hT1; replace hT2 := hid hT2; replace hT3 := hid hT3
    have k0 := Blk.new w #[.int .i64 p, .int .i64 u] 24
    go_enter Try.func5, Try.ntmps5
    go_wp2_with (first
      | (go_at_call 23; first | ((with_reducible refine (hPn.out _).mono ?_); rintro e w' ⟨rfl, rfl⟩) | ((with_reducible refine (hPm.out _).mono ?_); rintro e w' ⟨rfl, rfl⟩))
      | (go_at_call 14; first
        | ((with_reducible refine (hT1.out _).mono ?_); rintro e w1 ⟨v1, rfl, o1, hb1⟩; have nx := bgo (bal (b0 w) _) hb1; (try clear k0_0); (try clear k0_1); replace k0 := (by with_reducible (first | exact Blk.step k0 hb1 | exact Blk.step (Blk.alloc k0 _) hb1 | exact Blk.step (Blk.alloc (Blk.alloc k0 _) _) hb1)); have k0_0 := k0.cell 0; have k0_1 := k0.cell 1; simp only [List.getElem?_toArray, List.getElem?_cons_zero, List.getElem?_cons_succ] at k0_0 k0_1; have l0 := k0.lt)
        | ((with_reducible refine (hT2.out _).mono ?_); rintro e w2 ⟨v2, rfl, o2, hb2⟩; have nx := bgo (bal nx _) hb2; (try clear k0_0); (try clear k0_1); replace k0 := (by with_reducible (first | exact Blk.step k0 hb2 | exact Blk.step (Blk.alloc k0 _) hb2 | exact Blk.step (Blk.alloc (Blk.alloc k0 _) _) hb2)); have k0_0 := k0.cell 0; have k0_1 := k0.cell 1; simp only [List.getElem?_toArray, List.getElem?_cons_zero, List.getElem?_cons_succ] at k0_0 k0_1; have l0 := k0.lt)
        | ((with_reducible refine (hT3.out _).mono ?_); rintro e w3 ⟨v3, rfl, o3, hb3⟩; have nx := bgo (bal nx _) hb3))
      | (go_at_call 24; refine (hR.out _).mono ?_; rintro e w4 ⟨rfl, hb4⟩; have nx := bgo (bal nx _) hb4))
    go_ret
    exact ⟨rfl, nx⟩
  obtain ⟨hg, hab, e1, e2, e3, e4, e5, e6, e7⟩ := take_two n0 m0 h1 h2
  rw [e3, e4, h2, e1] at hT2
  rw [e1, e2, h1] at hT1
  rw [e5, e6, e7] at hT3
  obtain ⟨g1, g2, g3, g4⟩ := (goodR_iff r).1 hg
  clear e1 e2 e3 e4 e5 e6 e7 h1 h2 hg
  obtain ⟨p, u⟩ := r
  dsimp only at g1 g2 g3 g4 hab
  have hlz : ∀ k, k < (a + b).toNat → (places p (a + b).toNat)[k]? = some ((p + k) % 24) := fun k hk => places_get p (a + b).toNat k hk
  have hlx : ∀ k, k < a.toNat → (places p a.toNat)[k]? = some ((p + k) % 24) := fun k hk => places_get p a.toNat k hk
  have hly : ∀ k, k < b.toNat → (places ((p + a) % 24) b.toNat)[k]? = some ((p + a + k) % 24) := fun k hk => by rw [places_get _ _ _ hk]; congr 1; omega
  have nz := places_len p (a + b).toNat
  have nx := places_len p a.toNat
  have ny := places_len ((p + a) % 24) b.toNat
  have hmk := fun k (hk : k < (a + b).toNat) => marked_not (h := p) (n := (a + b).toNat) hk (by omega)
  have hme : ∀ k y, k < (a + b).toNat → (places p (a + b).toNat)[k]? = some y → ∀ x, (if x = y then some (.bool true) else marked (places p (a + b).toNat) k x) = marked (places p (a + b).toNat) (k + 1) x := fun k y hk hy x => by
    have := marked_step (l := places p (a + b).toNat) (k := k) (by rw [places_len]; exact hk) x
    rw [List.getElem?_eq_getElem (by rw [places_len]; exact hk)] at hy
    simp only [Option.some.injEq] at hy
    rw [hy] at this
    exact this
  have hm0 : ∀ x, (none : Option Value) = marked (places p (a + b).toNat) 0 x := fun x => by simp [marked]
  have hTc := fun w => ring_Tail ⟨(p + (a + b)) % 24, u + (a + b)⟩ w (by dsimp only; omega) (by dsimp only; omega) (by dsimp only; omega) (by dsimp only; omega)
  have hTr := fun w => ring_Tail ⟨p, u⟩ w g1 g2 g3 g4
  have hTd := fun w => ring_Tail ⟨(p + (a + b)) % 24, b⟩ w (by dsimp only; omega) (by dsimp only; omega) (by dsimp only; omega) (by dsimp only; omega)
  have hGv := fun w => ring_Give ⟨(p + (a + b)) % 24, u + (a + b)⟩ (u + a) w
  have q1 : giveE ⟨(p + (a + b)) % 24, u + (a + b)⟩ (u + a) = 0 := by
    unfold giveE
    rw [if_neg]
    rintro (h | h)
    · rw [goodR_not] at h; apply h; dsimp only; omega
    · dsimp only at h; omega
  have q2 : giveR ⟨(p + (a + b)) % 24, u + (a + b)⟩ (u + a) = ⟨(p + (a + b)) % 24, b⟩ := by
    unfold giveR; rw [if_pos q1]; simp only [Ring.mk.injEq, true_and]; omega
  rw [q1, q2] at hGv
  unfold Ring.val at *
  dsimp only at *
  rw [show ((p + (a + b)) % 24 - (u + (a + b)) + 24) % 24 = (p - u + 24) % 24 by omega] at hTc
  rw [show ((p + (a + b)) % 24 - b + 24) % 24 = (p + a) % 24 by omega] at hTd
  clear q1 q2
  generalize hsz : (a + b).toNat = sz at *
  generalize hsx : a.toNat = sx at *
  generalize hsy : b.toNat = sy at *
  have hpa : (p + a) % 24 = (p + a) % 24 := rfl
  generalize places p sz = lz at *
  generalize places p sx = lx at *
  generalize places ((p + a) % 24) sy = ly at *
  generalize hcp : (p + (a + b)) % 24 = cp at *
  have cu0 : 0 ≤ u + (a + b) := by omega
  have cu1 : u + (a + b) ≤ 24 := by omega
  have pa0 : 0 ≤ p + a := by omega
  have pa1 : p + a ≤ 48 := by omega
  generalize hcu : u + (a + b) = cu at *
  generalize hta : (p - u + 24) % 24 = ta at *
  have hlen : ((lz.length : Int) != (lx.length : Int) + (ly.length : Int)) = false := by
    rw [bne_eq_false_iff_eq]; omega
  have lx24 : lx.length ≤ 24 := by omega
  have ly24 : ly.length ≤ 24 := by omega
  have lz24 : lz.length ≤ 24 := by omega
  replace hcp := hid hcp; replace hcu := hid hcu; replace hta := hid hta
  clear hpa
  replace hsz := hid hsz; replace hsx := hid hsx; replace hsy := hid hsy; replace nz := hid nz; replace nx := hid nx; replace ny := hid ny
  replace hlz := hid hlz; replace hlx := hid hlx; replace hly := hid hly; replace hmk := hid hmk; replace hme := hid hme; replace hm0 := hid hm0
  replace hTc := hid hTc; replace hTr := hid hTr; replace hTd := hid hTd; replace hGv := hid hGv
  replace hPn := hid hPn; replace hPm := hid hPm; replace hR := hid hR; replace hT1 := hid hT1; replace hT2 := hid hT2; replace hT3 := hid hT3
  have k0 := Blk.new w #[.int .i64 p, .int .i64 u] 24
  have hmm := @run_makeMap Try.prog
  go_enter Try.func5, Try.ntmps5
  go_wp2_with (first
    | (go_at_call 23; first | ((with_reducible refine (hPn.out _).mono ?_); rintro e w' ⟨rfl, rfl⟩) | ((with_reducible refine (hPm.out _).mono ?_); rintro e w' ⟨rfl, rfl⟩))
    | (go_at_call 14; first
      | ((with_reducible refine (hT1.out _).mono ?_); rintro e w1 ⟨v1, rfl, o1, hb1⟩; obtain ⟨a1, c1, rfl⟩ := o1.form; have nb := bgo (bal (b0 w) _) hb1; (try clear k0_0); (try clear k0_1); replace k0 := (by with_reducible (first | exact Blk.step k0 hb1 | exact Blk.step (Blk.alloc k0 _) hb1 | exact Blk.step (Blk.alloc (Blk.alloc k0 _) _) hb1)); have k0_0 := k0.cell 0; have k0_1 := k0.cell 1; simp only [List.getElem?_toArray, List.getElem?_cons_zero, List.getElem?_cons_succ] at k0_0 k0_1; have l0 := k0.lt; have rx := hid o1.reads)
      | ((with_reducible refine (hT2.out _).mono ?_); rintro e w2 ⟨v2, rfl, o2, hb2⟩; obtain ⟨a2, c2, rfl⟩ := o2.form; have nb := bgo (bal nb _) hb2; (try clear k0_0); (try clear k0_1); replace k0 := (by with_reducible (first | exact Blk.step k0 hb2 | exact Blk.step (Blk.alloc k0 _) hb2 | exact Blk.step (Blk.alloc (Blk.alloc k0 _) _) hb2)); have k0_0 := k0.cell 0; have k0_1 := k0.cell 1; simp only [List.getElem?_toArray, List.getElem?_cons_zero, List.getElem?_cons_succ] at k0_0 k0_1; have l0 := k0.lt; replace rx := hid (rx.out.below (bgo (bal (b0 w1) _) hb2)); have ry := hid o2.reads)
      | ((with_reducible refine (hT3.out _).mono ?_); rintro e w3 ⟨v3, rfl, o3, hb3⟩; obtain ⟨a3, c3, rfl⟩ := o3.form; have kb := Blk.new w2 #[.int .i64 cp, .int .i64 cu] 24; have nb := bgo (bal nb _) hb3; (try clear k0_0); (try clear k0_1); (try clear kb_0); (try clear kb_1); replace k0 := (by with_reducible (first | exact Blk.step k0 hb3 | exact Blk.step (Blk.alloc k0 _) hb3 | exact Blk.step (Blk.alloc (Blk.alloc k0 _) _) hb3)); have k0_0 := k0.cell 0; have k0_1 := k0.cell 1; replace kb := (by with_reducible (first | exact Blk.step kb hb3 | exact Blk.step (Blk.alloc kb _) hb3 | exact Blk.step (Blk.alloc (Blk.alloc kb _) _) hb3)); have kb_0 := kb.cell 0; have kb_1 := kb.cell 1; simp only [List.getElem?_toArray, List.getElem?_cons_zero, List.getElem?_cons_succ] at k0_0 k0_1 kb_0 kb_1; have l0 := k0.lt; have lb := kb.lt; replace rx := hid (rx.out.below (bgo (bal (b0 w2) _) hb3)); replace ry := hid (ry.out.below (bgo (bal (b0 w2) _) hb3)); have rz := hid o3.reads))
    | (go_at_call 24; refine (hR.out _).mono ?_; rintro e w4 ⟨rfl, hb4⟩; have kc := Blk.new w3 #[.int .i64 cp, .int .i64 cu] 24; have nb := bgo (bal nb _) hb4; (try clear k0_0); (try clear k0_1); (try clear kb_0); (try clear kb_1); (try clear kc_0); (try clear kc_1); replace k0 := (by with_reducible (first | exact Blk.step k0 hb4 | exact Blk.step (Blk.alloc k0 _) hb4 | exact Blk.step (Blk.alloc (Blk.alloc k0 _) _) hb4)); have k0_0 := k0.cell 0; have k0_1 := k0.cell 1; replace kb := (by with_reducible (first | exact Blk.step kb hb4 | exact Blk.step (Blk.alloc kb _) hb4 | exact Blk.step (Blk.alloc (Blk.alloc kb _) _) hb4)); have kb_0 := kb.cell 0; have kb_1 := kb.cell 1; replace kc := (by with_reducible (first | exact Blk.step kc hb4 | exact Blk.step (Blk.alloc kc _) hb4 | exact Blk.step (Blk.alloc (Blk.alloc kc _) _) hb4)); have kc_0 := kc.cell 0; have kc_1 := kc.cell 1; simp only [List.getElem?_toArray, List.getElem?_cons_zero, List.getElem?_cons_succ] at k0_0 k0_1 kb_0 kb_1 kc_0 kc_1; have l0 := k0.lt; have lb := kb.lt; have lc := kc.lt; replace rx := hid (rx.out.below (bgo (bal (b0 w3) _) hb4)); replace ry := hid (ry.out.below (bgo (bal (b0 w3) _) hb4)); replace rz := hid (rz.out.below (bgo (bal (b0 w3) _) hb4))))
  have h4 : Below w4.heap.size w4 (w4.alloc (.map #[] 0)) := bal (b0 w4) _
  have im : IMap (w4.alloc (.map #[] 0)) w4.heap.size (marked lz 0) := (IMap.made w4).congr (fun x => hm0.out x)
  have k0 := k0.alloc (.map #[] 0)
  have kc := kc.alloc (.map #[] 0)
  have nb := bal nb (.map #[] 0)
  have lw := h4.size
  simp only [World.size_alloc] at lw
  clear hb1 hb2 hb3 hb4 kb kb_0 kb_1 lb
  generalize (w4.alloc (.map #[] 0)) = w5 at *
  clear k0_0 k0_1 kc_0 kc_1
  go_loopw [83] (fun i wr => ∃ k : Nat, k ≤ lz.length ∧ i = .int .i64 k ∧ IMap wr w4.heap.size (marked lz k) ∧ Blk wr w.heap.size #[.int .i64 p, .int .i64 u] 24 ∧ Blk wr w3.heap.size #[.int .i64 cp, .int .i64 cu] 24 ∧ Below w4.heap.size w4 wr ∧ Below w.heap.size w wr) (fun i _ => lz.length - (intOf i).toNat)
  case atStart => exact ⟨0, Nat.zero_le _, rfl, im, k0, kc, h4, nb⟩
  case round =>
    clear im k0 kc h4 nb
    obtain ⟨k, hk, rfl, im, k0, kc, h4, nb⟩ := hrel
    by_cases hlt : k < lz.length
    · have hkz : k < sz := by have := nz.out; omega
      have hzk := hlz.out k hkz
      obtain ⟨b3, off3, rfl, z0⟩ := RL.at1 (fun x => .int .i64 x) (fun _ => rfl) (rz.out.below h4) hlt
      rw [List.getElem?_eq_getElem hlt] at hzk
      simp only [Option.some.injEq] at hzk
      rw [hzk] at z0
      have hlk := (im.lookup Try.underlying35 Try.underlying3 (e := 4) (z := .bool false) (w := wr) (by kernel_rfl) ((p + k) % 24)).1
      rw [hmk.out k hkz] at hlk
      simp only [Option.getD_none] at hlk
      obtain ⟨wu, hup, imu, htu⟩ := im.update (P := Try.prog) Try.underlying35 Try.underlying3 ((p + k) % 24) (.bool true)
      have hnew := hid (hme.out k ((p + k) % 24) hkz (by rw [List.getElem?_eq_getElem hlt, hzk]))
      have hxk := fun h => hlx.out k h
      have hyk := fun j (h : k = sx + j) (hj : j < sy) => (hly.out j hj).trans (by congr 1; have := hsx.out; omega : _ = some ((p + k) % 24))
      have l0' := k0.lt
      have lc' := kc.lt
      clear hzk
      replace hxk := hid hxk; replace hyk := hid hyk
      generalize hy : (p + (k : Int)) % 24 = y at *
      replace hy := hid hy
      replace imu := hid imu
      by_cases hx : k < lx.length
      · have hxx := hxk.out (by have := nx.out; omega)
        obtain ⟨bx, offx, rfl, x0⟩ := RL.at1 (fun x => .int .i64 x) (fun _ => rfl) (rx.out.below h4) hx
        rw [List.getElem?_eq_getElem hx] at hxx
        simp only [Option.some.injEq] at hxx
        rw [hxx] at x0
        clear hxx
        go_wp2
        go_roundw
        case rel => exact ⟨k + 1, by omega, by go_num, imu.out.congr hnew.out, htu.blk k0 (by omega), htu.blk kc (by omega), htu.below h4 (Nat.le_refl _), htu.below nb (by omega)⟩
        case measure => simp [intOf]; omega
      · obtain ⟨j, hj⟩ : ∃ j, k = sx + j := ⟨k - sx, by have := nx.out; omega⟩
        have hjl : j < ly.length := by have := nx.out; have := ny.out; have := nz.out; have := hsz.out; have := hsx.out; have := hsy.out; omega
        have hyy := hyk.out j hj (by have := ny.out; omega)
        obtain ⟨by_, offy, rfl, y0⟩ := RL.at1 (fun x => .int .i64 x) (fun _ => rfl) (ry.out.below h4) hjl
        rw [List.getElem?_eq_getElem hjl] at hyy
        simp only [Option.some.injEq] at hyy
        rw [hyy] at y0
        have hsub : (k : Int) - (lx.length : Int) = (j : Int) := by have := nx.out; omega
        have hgx : lx.length ≤ k := by omega
        clear hyy
        replace hj := hid hj
        go_wp2
        go_roundw
        case rel => exact ⟨k + 1, by omega, by go_num, imu.out.congr hnew.out, htu.blk k0 (by omega), htu.blk kc (by omega), htu.below h4 (Nat.le_refl _), htu.below nb (by omega)⟩
        case measure => simp [intOf]; omega
    · have k0_0 := k0.cell 0; have k0_1 := k0.cell 1; have kc_0 := kc.cell 0; have kc_1 := kc.cell 1
      simp only [List.getElem?_toArray, List.getElem?_cons_zero, List.getElem?_cons_succ] at k0_0 k0_1 kc_0 kc_1
      have l0' := k0.lt
      have lc' := kc.lt
      have hb0 : (b == b) = true := beq_self_eq_true _
      have hta0 : (ta == ta) = true := beq_self_eq_true _
      have hpa0 : ((p + a) % 24 == (p + a) % 24) = true := beq_self_eq_true _
      by_cases he : lz.length = 0
      all_goals
        first | (have hz0 : ((lz.length : Int) == 0) = true := by (rw [he]; rfl)) | (have hz0 : ((lz.length : Int) == 0) = false := by (rw [beq_eq_false_iff_ne]; omega))
        clear he
        go_wp2_with (go_at_call 16; (refine (hGv.out _).mono ?_); rintro e w6 ⟨rfl, hb6⟩; have nb6 := bgo nb hb6; (try clear k0_0); (try clear k0_1); (try clear kc_0); (try clear kc_1); replace k0 := (by with_reducible (first | exact Blk.step k0 hb6 | exact Blk.step (Blk.alloc k0 _) hb6 | exact Blk.step (Blk.alloc (Blk.alloc k0 _) _) hb6)); have k0_0 := k0.cell 0; have k0_1 := k0.cell 1; replace kc := (by with_reducible (first | exact Blk.step kc hb6 | exact Blk.step (Blk.alloc kc _) hb6 | exact Blk.step (Blk.alloc (Blk.alloc kc _) _) hb6)); have kc_0 := kc.cell 0; have kc_1 := kc.cell 1; simp only [List.getElem?_toArray, List.getElem?_cons_zero, List.getElem?_cons_succ] at k0_0 k0_1 kc_0 kc_1; have l0' := k0.lt; have lc' := kc.lt)
        have kd := Blk.new w6 #[.int .i64 cp, .int .i64 b] 24
        replace k0 := k0.alloc (.cells #[.int .i64 cp, .int .i64 b] 24)
        replace kc := kc.alloc (.cells #[.int .i64 cp, .int .i64 b] 24)
        have ld := kd.lt
        have nb7 := bal nb6 (.cells #[.int .i64 cp, .int .i64 b] 24)
        generalize w6.alloc (.cells #[.int .i64 cp, .int .i64 b] 24) = w7 at *
        have l0' := k0.lt; have lc' := kc.lt
        (try clear k0_0 k0_1 kc_0 kc_1)
        have k0_0 := k0.cell 0; have k0_1 := k0.cell 1; have kc_0 := kc.cell 0; have kc_1 := kc.cell 1; have kd_0 := kd.cell 0; have kd_1 := kd.cell 1
        simp only [List.getElem?_toArray, List.getElem?_cons_zero, List.getElem?_cons_succ] at k0_0 k0_1 kc_0 kc_1 kd_0 kd_1
        (refine wp_region_below (by kernel_rfl) (by kernel_rfl) ?_); (repeat (go_big_quiet_step ((first
          | (go_at_call_of 21 (Value.agg #[.int .i64 cp, .int .i64 cu]); exact BW.call (hTc.out _))
          | (go_at_call_of 21 (Value.agg #[.int .i64 p, .int .i64 u]); exact BW.call (hTr.out _))
          | (go_at_call_of 21 (Value.agg #[.int .i64 cp, .int .i64 b]); exact BW.call (hTd.out _)))) )); refine wpQuiet_nil ?_; intro wq hw'; obtain ⟨⟨_, hb1⟩, rfl⟩ := hw'
        go_wp2
        go_ret
        exact ⟨ret_b rfl, bgo nb7 hb1⟩
end Go.Proofs.Ytjhmfljlclajnaa
