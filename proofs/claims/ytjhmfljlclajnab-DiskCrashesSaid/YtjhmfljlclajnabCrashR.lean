/- The walk of the reference's crash. -/
import Derived.Test.YtjhmfljlclajnabDisk3
import Derived.Test.YtjhmfljlclajnabDiskR
import Derived.Test.YtjhmfljlclajnabRegCall
import Derived.Test.YtjhmfljlclajnabCrashP
namespace Go.Proofs.Ytjhmfljlclajnab
open Go.RowKit Wb
set_option linter.unusedVariables false
set_option linter.unusedSimpArgs false
set_option maxRecDepth 100000
set_option maxHeartbeats 2000000

theorem ref_Crash_bad (d : Dsk) (draw : Int) (v : Value) (w : World) (hd : RDisk w v d) (h : ¬ (goodD d = true ∧ 0 ≤ draw)) :
    Calls Try.prog 11 #[v, .int .i64 draw] w fun e w' => ∃ v', e = .returned (.tuple #[v', .int .i64 (crashE d draw)]) ∧ RDisk w' v' (crashD d draw) ∧ Below w.heap.size w w' := by
  have hG := fun w (hh : RDisk w v d) => ref_GoodDisk d v w hh
  have hd2 := hd
  obtain ⟨vs, vw, rfl, hs, hw, n1, n2⟩ := hd
  obtain ⟨a, cap, rfl, ca1, ca2⟩ := hs.form
  obtain ⟨b, bcap, rfl, cb1, cb2⟩ := hw.form
  have he : crashE d draw = 2 := by unfold crashE; rw [if_neg h]
  have hv : crashD d draw = d := by unfold crashD; rw [if_neg h]
  rw [hv, he]
  clear he hv hs hw
  replace hd2 := hid hd2
  by_cases hg : goodD d = true
  · have hneg : draw < 0 := Int.not_le.1 (fun hh => h ⟨hg, hh⟩)
    rw [hg] at hG
    clear hg h
    replace hG := hid hG
    go_enter Try.func11, Try.ntmps11
    go_wp2_with (go_at_call 46; refine (hG.out _ (hd2.out.below (by repeat (first | exact Below.refl _ _ | with_reducible assumption | (refine allocB ?_ (by first | omega | (simp; done) | (simp; omega)) _) | (refine Below.setCell ?_ (by first | omega | (simp; done) | (simp; omega)) _) | refine Below.drew ?_ | (refine Below.trans ?_ (Below.mono (by with_reducible assumption) (by first | omega | (simp; done) | (simp; omega)))))))).mono ?_; rintro e w1 ⟨rfl, hb1⟩; obtain ⟨hbc, hbf⟩ := bcell hb1; have hbz := hb1.size; try simp only [World.size_alloc, World.size_setCell, World.size_drew] at hbz; have hz0 := Nat.lt_of_lt_of_le (n := w.heap.size) (by omega) hbz; have hz1 := Nat.lt_of_lt_of_le (n := w.heap.size + 1) (by omega) hbz)
    exact bodyPost_ret (v := .tuple #[.agg #[.slice a d.safe.length cap, .slice b d.writes.length bcap], .int .i64 2]) (by simp [results, Try.results11, go_sem, hbc]) rfl ⟨_, rfl, hd2.out.below (by repeat (first | exact Below.refl _ _ | with_reducible assumption | (refine allocB ?_ (by first | omega | (simp; done) | (simp; omega)) _) | (refine Below.setCell ?_ (by first | omega | (simp; done) | (simp; omega)) _) | refine Below.drew ?_ | (refine Below.trans ?_ (Below.mono (by with_reducible assumption) (by first | omega | (simp; done) | (simp; omega)))))), by repeat (first | exact Below.refl _ _ | with_reducible assumption | (refine allocB ?_ (by first | omega | (simp; done) | (simp; omega)) _) | (refine Below.setCell ?_ (by first | omega | (simp; done) | (simp; omega)) _) | refine Below.drew ?_ | (refine Below.trans ?_ (Below.mono (by with_reducible assumption) (by first | omega | (simp; done) | (simp; omega)))))⟩
  · rw [Bool.not_eq_true _ |>.mp hg] at hG
    clear hg h
    replace hG := hid hG
    go_enter Try.func11, Try.ntmps11
    go_wp2_with (go_at_call 46; refine (hG.out _ (hd2.out.below (by repeat (first | exact Below.refl _ _ | with_reducible assumption | (refine allocB ?_ (by first | omega | (simp; done) | (simp; omega)) _) | (refine Below.setCell ?_ (by first | omega | (simp; done) | (simp; omega)) _) | refine Below.drew ?_ | (refine Below.trans ?_ (Below.mono (by with_reducible assumption) (by first | omega | (simp; done) | (simp; omega)))))))).mono ?_; rintro e w1 ⟨rfl, hb1⟩; obtain ⟨hbc, hbf⟩ := bcell hb1; have hbz := hb1.size; try simp only [World.size_alloc, World.size_setCell, World.size_drew] at hbz; have hz0 := Nat.lt_of_lt_of_le (n := w.heap.size) (by omega) hbz; have hz1 := Nat.lt_of_lt_of_le (n := w.heap.size + 1) (by omega) hbz)
    exact bodyPost_ret (v := .tuple #[.agg #[.slice a d.safe.length cap, .slice b d.writes.length bcap], .int .i64 2]) (by simp [results, Try.results11, go_sem, hbc]) rfl ⟨_, rfl, hd2.out.below (by repeat (first | exact Below.refl _ _ | with_reducible assumption | (refine allocB ?_ (by first | omega | (simp; done) | (simp; omega)) _) | (refine Below.setCell ?_ (by first | omega | (simp; done) | (simp; omega)) _) | refine Below.drew ?_ | (refine Below.trans ?_ (Below.mono (by with_reducible assumption) (by first | omega | (simp; done) | (simp; omega)))))), by repeat (first | exact Below.refl _ _ | with_reducible assumption | (refine allocB ?_ (by first | omega | (simp; done) | (simp; omega)) _) | (refine Below.setCell ?_ (by first | omega | (simp; done) | (simp; omega)) _) | refine Below.drew ?_ | (refine Below.trans ?_ (Below.mono (by with_reducible assumption) (by first | omega | (simp; done) | (simp; omega)))))⟩

theorem ref_Crash_good (d : Dsk) (x : Nat) (v : Value) (w : World) (hd : RDisk w v d) (hg : goodD d = true) (hx : x ≤ 9223372036854775807) :
    Calls Try.prog 11 #[v, .int .i64 (x : Int)] w fun e w' => ∃ v', e = .returned (.tuple #[v', .int .i64 0]) ∧ RDisk w' v' ⟨crashL d x d.safe.length, []⟩ ∧ Below w.heap.size w w' := by
  have hG := fun w (hh : RDisk w v d) => ref_GoodDisk d v w hh
  have hd2 := hd
  obtain ⟨vs, vw, rfl, hs, hw, n1, n2⟩ := hd
  obtain ⟨a, cap, rfl, ca1, ca2⟩ := hs.form
  obtain ⟨b, bcap, rfl, cb1, cb2⟩ := hw.form
  rw [hg] at hG
  obtain ⟨g1, g2, _, _⟩ := (goodD_iff d).1 hg
  clear hg
  have hA : ∀ (m : Nat) (hm : m < d.safe.length) w (hh : RDisk w (.agg #[.slice a d.safe.length cap, .slice b d.writes.length bcap]) d), Calls Try.prog 47 #[.agg #[.slice a d.safe.length cap, .slice b d.writes.length bcap], .int .i64 (m : Int)] w fun e w' => ∃ v', e = .returned v' ∧ Own strC w.heap.size 9 1 w' v' (textsAt d m) ∧ Below w.heap.size w w' := fun m hm w hh => by
    rw [textsAt_eq d hm]; exact ref_after d m _ w hh hm g2
  have hget := fun (k : Nat) => (List.getElem?_eq_getElem (Nat.mod_lt _ (textsAt_pos d k))).trans (congrArg some (crashAt_get d x k (Nat.mod_lt _ (textsAt_pos d k))))
  have hpos := fun (k : Nat) => textsAt_pos d k
  have hle := fun (k : Nat) => textsAt_le d k
  have hdr := fun (k : Nat) => drawAt_le d x k
  have hds := fun (k : Nat) => drawAt_succ d x k
  have hcs := fun (k : Nat) => crashL_succ d x k
  have hcl := fun (k : Nat) => crashL_len d x k
  replace hd2 := hid hd2; replace hG := hid hG; replace hA := hid hA
  replace hget := hid hget; replace hpos := hid hpos; replace hle := hid hle; replace hdr := hid hdr; replace hds := hid hds; replace hcs := hid hcs; replace hcl := hid hcl; replace g1 := hid g1
  clear hs hw
  go_enter Try.func11, Try.ntmps11
  go_wp2_with (go_at_call 46; refine (hG.out _ (hd2.out.below (by repeat (first | exact Below.refl _ _ | with_reducible assumption | (refine allocB ?_ (by first | omega | (simp; done) | (simp; omega)) _) | (refine Below.setCell ?_ (by first | omega | (simp; done) | (simp; omega)) _) | refine Below.drew ?_ | (refine Below.trans ?_ (Below.mono (by with_reducible assumption) (by first | omega | (simp; done) | (simp; omega)))))))).mono ?_; rintro e w1 ⟨rfl, hb1⟩; obtain ⟨hbc, hbf⟩ := bcell hb1; have hbz := hb1.size; try simp only [World.size_alloc, World.size_setCell, World.size_drew] at hbz; have hz0 := Nat.lt_of_lt_of_le (n := w.heap.size) (by omega) hbz; have hz1 := Nat.lt_of_lt_of_le (n := w.heap.size + 1) (by omega) hbz; have k0 : Blk w1 w.heap.size #[.slice a d.safe.length cap, .slice b d.writes.length bcap] 25 := ((Blk.new w _ _).alloc _).step hb1; have k1 : Blk w1 (w.heap.size + 1) #[.slice none 0 0, .slice none 0 0] 25 := (Blk.newAt (w := w.alloc _) (by simp)).step hb1; have hnx3 : Below w.heap.size w w1 := (by repeat (first | exact Below.refl _ _ | with_reducible assumption | (refine allocB ?_ (by first | omega | (simp; done) | (simp; omega)) _) | (refine Below.setCell ?_ (by first | omega | (simp; done) | (simp; omega)) _) | refine Below.drew ?_ | (refine Below.trans ?_ (Below.mono (by with_reducible assumption) (by first | omega | (simp; done) | (simp; omega)))))); have lt1 := k1.lt; have lt0 := k0.lt; have c0 := k0.cell 0; have c1 := k0.cell 1; simp only [List.getElem?_toArray, List.getElem?_cons_zero, List.getElem?_cons_succ] at c0 c1; clear hb1 hbc hbf)
  go_loopw [1, 22] (fun s1 i wr => ∃ k : Nat, k ≤ d.safe.length ∧ i = .int .i64 k ∧ s1 = .int .i64 (drawAt d x k : Nat) ∧ ∃ vo, Own strC (w1.heap.size + 1) 9 1 wr vo (crashL d x k) ∧ Blk wr w.heap.size #[.slice a d.safe.length cap, .slice b d.writes.length bcap] 25 ∧ Blk wr (w.heap.size + 1) #[.slice none 0 0, .slice none 0 0] 25 ∧ Blk wr w1.heap.size #[vo, .slice none 0 0] 25 ∧ Below w.heap.size w wr) (fun _ i _ => d.safe.length - (intOf i).toNat)
  case atStart => exact ⟨0, Nat.zero_le _, rfl, rfl, _, Own.nil _ _ _ _ _, k0.alloc _, k1.alloc _, Blk.new _ _ _, allocB hnx3 (by omega) _⟩
  case round =>
    clear k0 k1 hnx3 lt0 lt1 c0 c1
    obtain ⟨k, hk, rfl, rfl, vo, hown, k0, k1, k2, hnx⟩ := hrel
    obtain ⟨ao, capo, rfl⟩ := hown.form
    have lt0 := k0.lt
    have lt1 := k1.lt
    have lt2 := k2.lt
    have c0 := k0.cell 0
    have c1 := k0.cell 1
    have c2 := k1.cell 0
    have c3 := k1.cell 1
    have c4 := k2.cell 0
    have c5 := k2.cell 1
    simp only [List.getElem?_toArray, List.getElem?_cons_zero, List.getElem?_cons_succ] at c0 c1 c2 c3 c4 c5
    by_cases hlt : k < d.safe.length
    · have hA := hA.out k hlt
      have hget := hget.out k
      have hpos := hpos.out k
      have hle := hle.out k
      have hdr := hdr.out k
      have hds := hds.out k
      have hcs := hcs.out k
      have hml := hcl.out k
      generalize drawAt d x k = y at *
      have hmx := Nat.mod_lt y hpos
      have hmi : ((y : Int) % ((textsAt d k).length : Int)) = ((y % (textsAt d k).length : Nat) : Int) := rfl
      have hmle : y % (textsAt d k).length ≤ y := Nat.mod_le _ _
      have hdi : (((y - y % (textsAt d k).length : Nat) : Int) / ((textsAt d k).length : Int)) = ((y / (textsAt d k).length : Nat) : Int) := by
        rw [← Int.natCast_ediv]
        congr 1
        have h1 := Nat.div_add_mod y (textsAt d k).length
        have h2 : y - y % (textsAt d k).length = (textsAt d k).length * (y / (textsAt d k).length) := by omega
        rw [h2, Nat.mul_div_cancel_left _ hpos]
      rw [← hds] at hdi
      have hys : drawAt d x (k + 1) ≤ y := by rw [hds]; exact Nat.div_le_self _ _
      generalize hye : drawAt d x (k + 1) = y2 at *
      replace hye := hid hye
      clear hds
      generalize y % (textsAt d k).length = q at *
      have hsu : (y : Int) - (q : Int) = ((y - q : Nat) : Int) := by omega
      generalize crashAt d x k = t at *
      generalize textsAt d k = ls at *
      generalize hym : y - q = ym at *
      have hyl : ym ≤ y := by omega
      replace hym := hid hym
      replace hget := hid hget; replace hcs := hid hcs; replace hA := hid hA
      generalize crashL d x k = Mk at *
      have hwq : IntKind.i64.wrap (y2 : Int) = y2 := IntWalk.i64_in _ (by omega)
      have hws : IntKind.i64.wrap (ym : Int) = ym := IntWalk.i64_in _ (by omega)
      have hne0 : ((ls.length : Int) == 0) = false := beq_eq_false_iff_ne.2 (by omega)
      have hmk : Mk.length ≤ 37 := by have := g1.out; omega
      have hq2 : (q : Int) < (ls.length : Int) := by omega
      replace hml := hid hml
      go_wp2_with (go_at_call 47; go_loud (refine (hA.out _ (hd2.out.below (by with_reducible exact hnx))).mono ?_; rintro e w3 ⟨v3, rfl, hown3, hb3⟩; obtain ⟨a3, cap3, rfl⟩ := hown3.form; obtain ⟨b3, off3, rfl, d3⟩ := RL.at1 (fun x => .string x) (fun _ => rfl) hown3.reads hmx; have hgt := hget.out; rw [List.getElem?_eq_getElem hmx] at hgt; simp only [Option.some.injEq] at hgt; rw [hgt] at d3; clear hgt; have lt3 := World.block_lt_of_cell? _ _ d3; dsimp only at lt3; have k0 := k0.step hb3; have k1 := k1.step hb3; have k2 := k2.step hb3; have hnx3 := hnx.trans (hb3.mono (by omega)); have hown := hown.below hb3; have c4 := k2.cell 0; have f4 := k2.free 0; simp only [List.getElem?_toArray, List.getElem?_cons_zero, List.getElem?_cons_succ] at c4; have lt2 := k2.lt))
      go_region_law (first | go_loud (refine step_app (by rfl) _ _ 22 (by rfl) (w1.heap.size + 1) _ 1 16 strC_flat elemStr ((hown.alloc _).drew) (by rfl) [t] (RL.ofBlk (f := strC) (g := w3.heap.size) [t] ((Blk.newAt (w := w3) rfl).drew) (by show 1 ≤ maxLen; decide)) (by rfl) (by (try simp); omega) (by (try simp); unfold maxLen; omega) (by (try simp); omega) ?_; intro v4 w4 hown4 hb4 _; obtain ⟨a4, cap4, rfl⟩ := hown4.form; have k4 := ((k2.alloc _).drew).below hb4 (by omega); have f5 := k4.cell 0; simp only [List.getElem?_toArray, List.getElem?_cons_zero, List.getElem?_cons_succ] at f5; have f6 := k4.free 0))
      all_goals
        go_wp2
        go_roundw
        case rel =>
          rw [len1, ← hcs.out] at hown4
          have hml2 := hml.out
          exact ⟨k + 1, by omega, by go_num, by rw [hye.out], _, hown4.setCell (p := ⟨w1.heap.size, 0, none⟩) (by simp) _, ((k0.alloc _).drew.below hb4 (by omega)).set_other _ _ (by simp; omega), ((k1.alloc _).drew.below hb4 (by omega)).set_other _ _ (by simp; omega), k4.set 0 _, ((allocB hnx3 (by omega) _).drew.trans (hb4.mono (by omega))).setCell (by simp; omega) _⟩
        case measure => simp [intOf]; omega
    · obtain rfl : k = d.safe.length := by omega
      have f1 := k1.free 0
      have f2 := k1.free 1
      have hmm := hcl.out d.safe.length
      replace hmm := hid hmm
      go_wp2
      have hF : Below w.heap.size w ((wr.setCell ⟨w.heap.size + 1, 0, none⟩ (.slice ao (crashL d x d.safe.length).length capo)).setCell ⟨w.heap.size + 1, 1, none⟩ (.slice none 0 0)) := (hnx.setCell (by simp) _).setCell (by simp) _
      have ho := (hown.setCell (p := ⟨w.heap.size + 1, 0, none⟩) (by simp; omega) (.slice ao (crashL d x d.safe.length).length capo)).setCell (p := ⟨w.heap.size + 1, 1, none⟩) (by simp; omega) (.slice none 0 0)
      refine bodyPost_ret (v := .tuple #[.agg #[.slice ao (crashL d x d.safe.length).length capo, .slice none 0 0], .int .i64 0]) (by simp [results, Try.results11, go_sem, c2, c3]) rfl ⟨_, rfl, ⟨_, _, rfl, ho.reads, RL.nil _ _, by rw [hmm.out]; exact n1, by simp⟩, hF⟩

theorem ref_CrashDisk (d : Dsk) (draw : Int) (v : Value) (w : World) (hd : RDisk w v d) (hx : draw ≤ 9223372036854775807) :
    Calls Try.prog 11 #[v, .int .i64 draw] w fun e w' => ∃ v', e = .returned (.tuple #[v', .int .i64 (crashE d draw)]) ∧ RDisk w' v' (crashD d draw) ∧ Below w.heap.size w w' := by
  by_cases h : goodD d = true ∧ 0 ≤ draw
  · obtain ⟨hg, h0⟩ := h
    have he : crashE d draw = 0 := by unfold crashE; rw [if_pos ⟨hg, h0⟩]
    have hv : crashD d draw = ⟨crashL d draw.toNat d.safe.length, []⟩ := by unfold crashD; rw [if_pos ⟨hg, h0⟩]
    rw [he, hv]
    have := ref_Crash_good d draw.toNat v w hd hg (by omega)
    rwa [Int.toNat_of_nonneg h0] at this
  · exact ref_Crash_bad d draw v w hd h
end Go.Proofs.Ytjhmfljlclajnab
