/- The walk of disk.Crash. -/
import Derived.Test.YtjhmfljlclajnabDisk7
import Derived.Test.YtjhmfljlclajnabPoke
import Derived.Test.YtjhmfljlclajnabCrashP
namespace Go.Proofs.Ytjhmfljlclajnab
open Go.RowKit Wb
set_option linter.unusedVariables false
set_option linter.unusedSimpArgs false
set_option maxRecDepth 100000
set_option maxHeartbeats 2000000

theorem disk_Crash_bad (d : Dsk) (draw : Int) (v : Value) (w : World) (hd : RDisk w v d) (h : ¬ (goodD d = true ∧ 0 ≤ draw)) :
    Calls Try.prog 10 #[v, .int .i64 draw] w fun e w' => ∃ v', e = .returned (.tuple #[v', .int .i64 (crashE d draw)]) ∧ RDisk w' v' (crashD d draw) ∧ Below w.heap.size w w' := by
  have hG := fun w (hh : RDisk w v d) => disk_Good d v w hh
  have hd2 := hd
  obtain ⟨vs, vw, rfl, hs, hw, n1, n2⟩ := hd
  obtain ⟨a, cap, rfl, ca1, ca2⟩ := hs.form
  obtain ⟨b, bcap, rfl, cb1, cb2⟩ := hw.form
  have he : crashE d draw = 2 := by unfold crashE; rw [if_neg h]
  have hv : crashD d draw = d := by unfold crashD; rw [if_neg h]
  rw [hv, he]
  clear he hv hs hw
  replace hd2 := hid hd2
  by_cases hg : goodD d = true
  · have hneg : draw < 0 := Int.not_le.1 (fun hh => h ⟨hg, hh⟩)
    rw [hg] at hG
    clear hg h
    replace hG := hid hG
    go_enter Try.func10, Try.ntmps10
    go_wp2_with (go_at_call 20; refine (hG.out _ (hd2.out.below (by repeat (first | exact Below.refl _ _ | with_reducible assumption | (refine allocB ?_ (by first | omega | (simp; done) | (simp; omega)) _) | (refine Below.setCell ?_ (by first | omega | (simp; done) | (simp; omega)) _) | refine Below.drew ?_ | (refine Below.trans ?_ (Below.mono (by with_reducible assumption) (by first | omega | (simp; done) | (simp; omega)))))))).mono ?_; rintro e w1 ⟨rfl, hb1⟩; obtain ⟨hbc, hbf⟩ := bcell hb1; have hbz := hb1.size; try simp only [World.size_alloc, World.size_setCell, World.size_drew] at hbz; have hz0 := Nat.lt_of_lt_of_le (n := w.heap.size) (by omega) hbz; have hz1 := Nat.lt_of_lt_of_le (n := w.heap.size + 1) (by omega) hbz)
    exact bodyPost_ret (v := .tuple #[.agg #[.slice a d.safe.length cap, .slice b d.writes.length bcap], .int .i64 2]) (by simp [results, Try.results10, go_sem, hbc]) rfl ⟨_, rfl, hd2.out.below (by repeat (first | exact Below.refl _ _ | with_reducible assumption | (refine allocB ?_ (by first | omega | (simp; done) | (simp; omega)) _) | (refine Below.setCell ?_ (by first | omega | (simp; done) | (simp; omega)) _) | refine Below.drew ?_ | (refine Below.trans ?_ (Below.mono (by with_reducible assumption) (by first | omega | (simp; done) | (simp; omega)))))), by repeat (first | exact Below.refl _ _ | with_reducible assumption | (refine allocB ?_ (by first | omega | (simp; done) | (simp; omega)) _) | (refine Below.setCell ?_ (by first | omega | (simp; done) | (simp; omega)) _) | refine Below.drew ?_ | (refine Below.trans ?_ (Below.mono (by with_reducible assumption) (by first | omega | (simp; done) | (simp; omega)))))⟩
  · rw [Bool.not_eq_true _ |>.mp hg] at hG
    clear hg h
    replace hG := hid hG
    go_enter Try.func10, Try.ntmps10
    go_wp2_with (go_at_call 20; refine (hG.out _ (hd2.out.below (by repeat (first | exact Below.refl _ _ | with_reducible assumption | (refine allocB ?_ (by first | omega | (simp; done) | (simp; omega)) _) | (refine Below.setCell ?_ (by first | omega | (simp; done) | (simp; omega)) _) | refine Below.drew ?_ | (refine Below.trans ?_ (Below.mono (by with_reducible assumption) (by first | omega | (simp; done) | (simp; omega)))))))).mono ?_; rintro e w1 ⟨rfl, hb1⟩; obtain ⟨hbc, hbf⟩ := bcell hb1; have hbz := hb1.size; try simp only [World.size_alloc, World.size_setCell, World.size_drew] at hbz; have hz0 := Nat.lt_of_lt_of_le (n := w.heap.size) (by omega) hbz; have hz1 := Nat.lt_of_lt_of_le (n := w.heap.size + 1) (by omega) hbz)
    exact bodyPost_ret (v := .tuple #[.agg #[.slice a d.safe.length cap, .slice b d.writes.length bcap], .int .i64 2]) (by simp [results, Try.results10, go_sem, hbc]) rfl ⟨_, rfl, hd2.out.below (by repeat (first | exact Below.refl _ _ | with_reducible assumption | (refine allocB ?_ (by first | omega | (simp; done) | (simp; omega)) _) | (refine Below.setCell ?_ (by first | omega | (simp; done) | (simp; omega)) _) | refine Below.drew ?_ | (refine Below.trans ?_ (Below.mono (by with_reducible assumption) (by first | omega | (simp; done) | (simp; omega)))))), by repeat (first | exact Below.refl _ _ | with_reducible assumption | (refine allocB ?_ (by first | omega | (simp; done) | (simp; omega)) _) | (refine Below.setCell ?_ (by first | omega | (simp; done) | (simp; omega)) _) | refine Below.drew ?_ | (refine Below.trans ?_ (Below.mono (by with_reducible assumption) (by first | omega | (simp; done) | (simp; omega)))))⟩

theorem disk_Crash_good (d : Dsk) (x : Nat) (v : Value) (w : World) (hd : RDisk w v d) (hg : goodD d = true) (hx : x ≤ 9223372036854775807) :
    Calls Try.prog 10 #[v, .int .i64 (x : Int)] w fun e w' => ∃ v', e = .returned (.tuple #[v', .int .i64 0]) ∧ RDisk w' v' ⟨crashL d x d.safe.length, []⟩ ∧ Below w.heap.size w w' := by
  have hG := fun w (hh : RDisk w v d) => disk_Good d v w hh
  have hd2 := hd
  obtain ⟨vs, vw, rfl, hs, hw, n1, n2⟩ := hd
  obtain ⟨a, cap, rfl, ca1, ca2⟩ := hs.form
  obtain ⟨b, bcap, rfl, cb1, cb2⟩ := hw.form
  rw [hg] at hG
  obtain ⟨g1, g2, _, _⟩ := (goodD_iff d).1 hg
  clear hg
  have hC := fun v w (hh : RL strC w v d.safe) => clone_Strings d.safe v w hh n1
  have hset := fun (k : Nat) (hk : k < d.safe.length) => mixL_set d x hk
  have hlen := fun (k : Nat) (hk : k ≤ d.safe.length) => mixL_len d x hk
  have hget := fun (k : Nat) => crashAt_get d x k (Nat.mod_lt _ (textsAt_pos d k))
  have hpos := fun (k : Nat) => textsAt_pos d k
  have hle := fun (k : Nat) => textsAt_le d k
  have hdr := fun (k : Nat) => drawAt_le d x k
  have hds := fun (k : Nat) => drawAt_succ d x k
  have htx := fun (k : Nat) (hk : k < d.safe.length) => textsAt_eq d hk
  have hhit := fun (n k : Nat) (hn : n < d.safe.length) (hk : k < d.writes.length) => afterL_hit d.safe[n] n hk
  have hmiss := fun (n k : Nat) (hn : n < d.safe.length) (hk : k < d.writes.length) => afterL_miss d.safe[n] n hk
  have hal := fun (n k : Nat) (hn : n < d.safe.length) => afterL_len d.safe[n] n (d.writes.take k)
  have hm0 := mixL_zero d x
  have hmf := mixL_full d x
  have hcl := crashL_len d x d.safe.length
  replace hd2 := hid hd2; replace hG := hid hG; replace hC := hid hC; replace hs := hid hs; replace hw := hid hw; replace hset := hid hset; replace hlen := hid hlen
  replace hget := hid hget; replace hpos := hid hpos; replace hle := hid hle; replace hdr := hid hdr; replace hds := hid hds; replace htx := hid htx; replace hhit := hid hhit; replace hmiss := hid hmiss; replace hal := hid hal
  replace hm0 := hid hm0; replace hmf := hid hmf; replace hcl := hid hcl; replace g1 := hid g1
  go_enter Try.func10, Try.ntmps10
  go_wp2_with (first
    | (go_at_call 20; refine (hG.out _ (hd2.out.below (by repeat (first | exact Below.refl _ _ | with_reducible assumption | (refine allocB ?_ (by first | omega | (simp; done) | (simp; omega)) _) | (refine Below.setCell ?_ (by first | omega | (simp; done) | (simp; omega)) _) | refine Below.drew ?_ | (refine Below.trans ?_ (Below.mono (by with_reducible assumption) (by first | omega | (simp; done) | (simp; omega)))))))).mono ?_; rintro e w1 ⟨rfl, hb1⟩; obtain ⟨hbc, hbf⟩ := bcell hb1; have hbz := hb1.size; try simp only [World.size_alloc, World.size_setCell, World.size_drew] at hbz; have hz0 := Nat.lt_of_lt_of_le (n := w.heap.size) (by omega) hbz; have hz1 := Nat.lt_of_lt_of_le (n := w.heap.size + 1) (by omega) hbz)
    | (go_at_call 45; go_loud (refine (hC.out _ _ (hs.out.below (by repeat (first | exact Below.refl _ _ | with_reducible assumption | (refine allocB ?_ (by first | omega | (simp; done) | (simp; omega)) _) | (refine Below.setCell ?_ (by first | omega | (simp; done) | (simp; omega)) _) | refine Below.drew ?_ | (refine Below.trans ?_ (Below.mono (by with_reducible assumption) (by first | omega | (simp; done) | (simp; omega)))))))).mono ?_; rintro e w3 ⟨v3, rfl, hown3, hb3⟩; obtain ⟨a3, cap3, rfl⟩ := hown3.form; have k0 : Blk w3 w.heap.size #[.slice a d.safe.length cap, .slice b d.writes.length bcap] 25 := (((Blk.new w _ _).alloc _).step hb1).step hb3; have k1 : Blk w3 (w.heap.size + 1) #[.slice none 0 0, .slice none 0 0] 25 := ((Blk.newAt (w := w.alloc _) (by simp)).step hb1).step hb3; have hnx3 : Below w.heap.size w w3 := (by repeat (first | exact Below.refl _ _ | with_reducible assumption | (refine allocB ?_ (by first | omega | (simp; done) | (simp; omega)) _) | (refine Below.setCell ?_ (by first | omega | (simp; done) | (simp; omega)) _) | refine Below.drew ?_ | (refine Below.trans ?_ (Below.mono (by with_reducible assumption) (by first | omega | (simp; done) | (simp; omega)))))); have lt1 := k1.lt; have lt0 := k0.lt; have c0 := k0.cell 0; have c1 := k0.cell 1; simp only [List.getElem?_toArray, List.getElem?_cons_zero, List.getElem?_cons_succ] at c0 c1; have og := fun g (hh : Value.ownBlock (.slice a3 d.safe.length cap3) = some g) => World.ownsRow.lt hown3 g hh; replace og := hid og; have lz := hb1.size; clear hbc hbf hbz hb1 hb3)))
  have hz1w : w.heap.size + 1 < w1.heap.size := by (try simp at lz); omega
  have o0 := hown3
  rw [← hm0.out] at o0
  go_loopw [1, 26] (fun s1 i wr => ∃ k : Nat, k ≤ d.safe.length ∧ i = .int .i64 k ∧ s1 = .int .i64 (drawAt d x k : Nat) ∧ Own strC w1.heap.size 9 1 wr (.slice a3 d.safe.length cap3) (mixL d x k) ∧ Blk wr w.heap.size #[.slice a d.safe.length cap, .slice b d.writes.length bcap] 25 ∧ Blk wr (w.heap.size + 1) #[.slice none 0 0, .slice none 0 0] 25 ∧ Blk wr w3.heap.size #[.slice a3 d.safe.length cap3, .slice none 0 0] 25 ∧ Below w.heap.size w wr) (fun _ i _ => d.safe.length - (intOf i).toNat)
  case atStart => exact ⟨0, Nat.zero_le _, rfl, rfl, o0.alloc _, k0.alloc _, k1.alloc _, Blk.new _ _ _, allocB hnx3 (by omega) _⟩
  case round =>
    clear k0 k1 hnx3 lt0 lt1 c0 c1 o0 hown3
    obtain ⟨wo, rfl⟩ : ∃ wo : World, wo = wr := ⟨_, rfl⟩
    obtain ⟨k, hk, rfl, rfl, hown, k0, k1, k2, hnx⟩ := hrel
    have lt0 := k0.lt
    have lt1 := k1.lt
    have lt2 := k2.lt
    have c0 := k0.cell 0
    have c1 := k0.cell 1
    have c2 := k1.cell 0
    have c3 := k1.cell 1
    have c4 := k2.cell 0
    have c5 := k2.cell 1
    simp only [List.getElem?_toArray, List.getElem?_cons_zero, List.getElem?_cons_succ] at c0 c1 c2 c3 c4 c5
    by_cases hlt : k < d.safe.length
    · obtain ⟨b2, off, rfl, d0⟩ := RL.at1 (fun x => .string x) (fun _ => rfl) (hs.out.below hnx) hlt
      have ld := World.block_lt_of_cell? _ _ d0
      dsimp only at ld
      have hset := hset.out k hlt
      have hget := hget.out k
      have hpos := hpos.out k
      have hle := hle.out k
      have hdr := hdr.out k
      have hds := hds.out k
      have htx := htx.out k hlt
      have hhit := fun j hj => hhit.out k j hlt hj
      have hmiss := fun j hj => hmiss.out k j hlt hj
      have hal := fun j => hal.out k j hlt
      have hml := hlen.out k (by omega)
      generalize mixL d x k = M at *
      replace hset := hid hset; replace hget := hid hget; replace hds := hid hds; replace htx := hid htx; replace hhit := hid hhit; replace hmiss := hid hmiss; replace hal := hid hal; replace hml := hid hml; replace hpos := hid hpos; replace hle := hid hle
      obtain ⟨sk, hsk⟩ : ∃ sk, sk = d.safe[k] := ⟨_, rfl⟩
      rw [← hsk] at d0 htx hhit hmiss hal
      clear hsk
      generalize drawAt d x k = y at *
      go_wp2
      have kl : Blk (wo.alloc (.cells #[.string sk] 9)) wo.heap.size #[.string sk] 9 := Blk.new wo _ _
      go_loopw [8, 10, 38] (fun l _ i wi => ∃ j : Nat, j ≤ d.writes.length ∧ i = .int .i64 j ∧ Own strC wo.heap.size 9 1 wi l (afterL sk k (d.writes.take j)) ∧ Below wo.heap.size wo wi ∧ wo.heap.size < wi.heap.size) (fun _ _ i _ => d.writes.length - (intOf i).toNat)
      case atStart =>
        refine ⟨0, Nat.zero_le _, rfl, ?_, bal (b0 wo) _, by simp⟩
        rw [List.take_zero, afterL_nil]
        exact Own.lit (f := strC) strC_flat wo.heap.size 9 wo [sk] (by simp) (by show 1 ≤ maxLen; decide) rfl (by simp) rfl
      case round =>
        obtain ⟨j, hj, rfl, hl, hbi, hzi⟩ := hrel
        by_cases hlt2 : j < d.writes.length
        · obtain ⟨b3, off3, rfl, d1, d2⟩ := RL.at2 (fun x => .int .i64 x.at_) (fun x => .string x.text) (fun _ => rfl) ((hw.out.below hnx).below hbi) hlt2
          have ld3 := World.block_lt_of_cell? _ _ d1
          dsimp only at ld3
          by_cases heq : d.writes[j].at_ = k
          · have hh := hhit.out j hlt2 heq
            have hq := hal.out j
            rw [List.length_take] at hq
            have e1 : (d.writes[j].at_ == (k : Int)) = true := beq_iff_eq.2 heq
            replace hh := hid hh
            clear heq
            generalize d.writes[j] = xw at *
            generalize afterL sk k (d.writes.take j) = ls at *
            have hqq : ls.length ≤ 201 := by omega
            clear hq
            go_wp2_with (at_builtin; go_loud (refine wpList_push rfl _ _ _ rfl wo.heap.size _ 1 16 strC_flat elemStr (hl.alloc _) rfl xw.text rfl rfl ?c1 ?c2 ?c3 ?c4))
            all_goals try (case c1 => omega)
            all_goals try (case c2 => unfold maxLen; omega)
            all_goals try (case c3 => simp; omega)
            case c4 =>
              intro v7 w7 hown7 hbel7 _
              rw [← hh.out] at hown7
              have hz7 := hbel7.size
              go_wp2
              go_roundw
              case rel => exact ⟨j + 1, by omega, by go_num, hown7, (allocB hbi (by omega) _).trans (hbel7.mono (by omega)), by simp at hz7; omega⟩
              case measure => simp [intOf]; omega
          · have hh := hmiss.out j hlt2 heq
            have e1 : (d.writes[j].at_ == (k : Int)) = false := beq_eq_false_iff_ne.2 heq
            replace hh := hid hh
            clear heq
            generalize d.writes[j] = xw at *
            go_wp2
            go_roundw
            case rel => exact ⟨j + 1, by omega, by go_num, by rw [hh.out]; exact hl.alloc _, allocB hbi (by omega) _, by simp; omega⟩
            case measure => simp [intOf]; omega
        · rw [List.take_of_length_le (by omega), ← htx.out] at hl
          obtain ⟨al, capl, rfl⟩ := hl.form
          have k0 := k0.step hbi
          have k1 := k1.step hbi
          have k2 := k2.step hbi
          have hown := hown.below hbi
          have hnx := hnx.trans (hbi.mono (by omega))
          clear c0 c1 c2 c3 c4 c5 lt0 lt1 lt2 d0 ld kl
          have lt2 := k2.lt
          have c4 := k2.cell 0
          simp only [List.getElem?_toArray, List.getElem?_cons_zero, List.getElem?_cons_succ] at c4
          replace hpos := hpos.out
          replace hle := hle.out
          replace hget := hget.out
          replace hds := hds.out
          have hmx := Nat.mod_lt y hpos
          have hmi : ((y : Int) % ((textsAt d k).length : Int)) = ((y % (textsAt d k).length : Nat) : Int) := rfl
          have hmt : ((y : Int).tmod ((textsAt d k).length : Int)) = ((y % (textsAt d k).length : Nat) : Int) := rfl
          have hdi : ((y : Int) / ((textsAt d k).length : Int)) = ((y / (textsAt d k).length : Nat) : Int) := rfl
          have hdt : ((y : Int).tdiv ((textsAt d k).length : Int)) = ((y / (textsAt d k).length : Nat) : Int) := rfl
          rw [← hds] at hdi hdt
          generalize hye : drawAt d x (k + 1) = y2 at *
          replace hye := hid hye
          obtain ⟨bl, offl, rfl, z0⟩ := RL.at1 (fun x => .string x) (fun _ => rfl) hl.reads hmx
          rw [hget] at z0
          clear hget
          replace hds := hid hds
          generalize y % (textsAt d k).length = q at *
          generalize crashAt d x k = t at *
          generalize textsAt d k = ls at *
          have hne0 : ((ls.length : Int) == 0) = false := beq_eq_false_iff_ne.2 (by omega)
          have hm := hml.out
          obtain ⟨g, cap4, hv, hgb, hgl, hgc, hpk⟩ := hown.poke strC_flat (k := k) (by omega)
          simp only [Value.slice.injEq] at hv
          obtain ⟨rfl, _, rfl⟩ := hv
          obtain ⟨z2, z3⟩ := hgc 0 (by decide)
          replace hpk := hpk 0 t (.string t) (by decide) rfl
          rw [hset.out, Nat.mul_one, Nat.add_zero] at hpk
          simp only [Nat.mul_one, Nat.add_zero, strC, List.getElem?_cons_zero] at z2 z3
          replace hpk := hid hpk
          have hne := og.out g rfl
          have hm3 : k < M.length := by omega
          obtain ⟨old, hold⟩ : ∃ o, M[k] = o := ⟨_, rfl⟩
          rw [hold] at z3
          clear hold hm hown hgc hm3
          have hq2 : (q : Int) < (ls.length : Int) := by omega
          have hk2 : (k : Int) < (d.safe.length : Int) := by omega
          have lz0 := World.block_lt_of_cell? _ _ z0
          dsimp only at lz0
          have hy0 : (y : Int) ≤ 9223372036854775807 := by omega
          have hys : y2 ≤ y := by rw [hds.out]; exact Nat.div_le_self _ _
          have hy2 : IntKind.i64.wrap (y2 : Int) = y2 := IntWalk.i64_in _ (by omega)
          go_wp2
          go_region
          all_goals
            go_wp2
            go_roundw
            case rel => exact ⟨k + 1, by omega, by go_num, by rw [hye.out], hpk.out, k0.drew.set_other _ _ (by simp; omega), k1.drew.set_other _ _ (by simp; omega), k2.drew.set_other _ _ (by simp; omega), hnx.drew.setCell (by simp; omega) _⟩
            case measure => simp [intOf]; omega
    · obtain rfl : k = d.safe.length := by omega
      rw [hmf.out] at hown
      have f1 := k1.free 0
      have f2 := k1.free 1
      have hcl2 := hcl.out
      go_wp2
      have hF : Below w.heap.size w ((wo.setCell ⟨w.heap.size + 1, 0, none⟩ (.slice a3 d.safe.length cap3)).setCell ⟨w.heap.size + 1, 1, none⟩ (.slice none 0 0)) := (hnx.setCell (by simp) _).setCell (by simp) _
      have ho := (hown.setCell (p := ⟨w.heap.size + 1, 0, none⟩) (by simp; omega) (.slice a3 d.safe.length cap3)).setCell (p := ⟨w.heap.size + 1, 1, none⟩) (by simp; omega) (.slice none 0 0)
      refine bodyPost_ret (v := .tuple #[.agg #[.slice a3 d.safe.length cap3, .slice none 0 0], .int .i64 0]) (by simp [results, Try.results10, go_sem, c2, c3]) rfl ⟨_, rfl, ⟨_, _, rfl, ho.reads, RL.nil _ _, by rw [hcl.out]; exact n1, by simp⟩, hF⟩

theorem disk_Crash (d : Dsk) (draw : Int) (v : Value) (w : World) (hd : RDisk w v d) (hx : draw ≤ 9223372036854775807) :
    Calls Try.prog 10 #[v, .int .i64 draw] w fun e w' => ∃ v', e = .returned (.tuple #[v', .int .i64 (crashE d draw)]) ∧ RDisk w' v' (crashD d draw) ∧ Below w.heap.size w w' := by
  by_cases h : goodD d = true ∧ 0 ≤ draw
  · obtain ⟨hg, h0⟩ := h
    have he : crashE d draw = 0 := by unfold crashE; rw [if_pos ⟨hg, h0⟩]
    have hv : crashD d draw = ⟨crashL d draw.toNat d.safe.length, []⟩ := by unfold crashD; rw [if_pos ⟨hg, h0⟩]
    rw [he, hv]
    have := disk_Crash_good d draw.toNat v w hd hg (by omega)
    rwa [Int.toNat_of_nonneg h0] at this
  · exact disk_Crash_bad d draw v w hd h
end Go.Proofs.Ytjhmfljlclajnab
